import Derived.Test.YtbekhjcnmifnnaaQ0
import Derived.Test.YtbekhjcnmifnnaaQ40
set_option linter.unusedVariables false
set_option linter.unusedSimpArgs false
namespace Go.Proofs.Ytbekhjcnmifnnaa.Q
open Go.RowKit Go.Proofs.YtbekhjcnmifnnaaW.PrintWords Go.Proofs.YtbekhjcnmifnnaaW.PrintLast Go.Proofs.YtbekhjcnmifnnaaW.PrintMore
def jobshellref04_Valid.l0 : Nat → List (S35) → Int → Option (Bool)
 | 0, _, _ => none
 | k + 1, x0, x3 => if x3 < (x0.length : Int) then (if 0 ≤ x3 then (if ((rd_T35 x0 x3).f0) = 1 then (if ((rd_T35 x0 x3).f0) < 1 then (some false) else (if ((rd_T35 x0 x3).f0) > 4 then (some false) else (if (((rd_T35 x0 x3).f1).size : Int) = 1 then (if ((rd_T35 x0 x3).f0) = 4 then ((jobshellref04_ascending.f k ((rd_T35 x0 x3).f3)).bind fun t513 => (if t513 = true then (jobshellref04_Valid.l0 k x0 (wrap64 (x3 + 1))) else (some false))) else (if (rd_T35 x0 x3).f2 = true then (some false) else (if (((rd_T35 x0 x3).f3).length : Int) > 0 then (some false) else ((jobshellref04_ascending.f k ((rd_T35 x0 x3).f3)).bind fun t514 => (if t514 = true then (jobshellref04_Valid.l0 k x0 (wrap64 (x3 + 1))) else (some false)))))) else (some false)))) else (if ((rd_T35 x0 x3).f0) < 1 then (some false) else (if ((rd_T35 x0 x3).f0) > 4 then (some false) else (if (((rd_T35 x0 x3).f1).size : Int) = 0 then (if ((rd_T35 x0 x3).f0) = 4 then ((jobshellref04_ascending.f k ((rd_T35 x0 x3).f3)).bind fun t515 => (if t515 = true then (jobshellref04_Valid.l0 k x0 (wrap64 (x3 + 1))) else (some false))) else (if (rd_T35 x0 x3).f2 = true then (some false) else (if (((rd_T35 x0 x3).f3).length : Int) > 0 then (some false) else ((jobshellref04_ascending.f k ((rd_T35 x0 x3).f3)).bind fun t516 => (if t516 = true then (jobshellref04_Valid.l0 k x0 (wrap64 (x3 + 1))) else (some false)))))) else (some false))))) else (none)) else (some true)
def jobshellref04_Valid.f (k : Nat) (l0 : List (S35)) : Option (Bool) := jobshellref04_Valid.l0 k l0 0
set_option maxHeartbeats 8000000 in
set_option maxRecDepth 100000 in
theorem jobshellref04_Valid.calls (k : Nat) (A0 : Option Addr) (c0 : Nat) (l0 : List (S35)) (r : Bool) (w : World) (hr0 : Kd.C k35 w A0 l0.length l0) (hc0 : l0.length ≤ c0) (h : jobshellref04_Valid.f k l0 = some r) :
 Calls Try.prog 22 #[.slice A0 l0.length c0] w fun e w' => e = .returned (.bool r) ∧ Below w.heap.size w w' := by
 have hu35 := Try.underlying35
 have HR0 := m_ hr0
 have HC0 := m_ hc0
 clear hr0 hc0
 have HB := m_ (Below.refl w.heap.size w)
 have H : (jobshellref04_Valid.l0 k l0 0) = some r := h
 clear h
 have H' := m_ H
 clear H
 go_enter Try.func22, Try.ntmps22
 go_wp2
 go_loopg [3] k (fun kq v3 w' => ∃ (x3_1 : Int), v3 = .int .i64 x3_1 ∧ Aside0 (jobshellref04_Valid.l0 kq l0 x3_1 = some r) ∧ Aside0 (kq ≤ k) ∧ Aside0 (Below w.heap.size w w'))
 case atStart => exact ⟨(0), (by first | rfl | (simp; done) | (simp [*]; done)), H', ⟨Nat.le_refl _⟩, ⟨by repeat (with_reducible first | exact HB.out | apply l1_ | apply l2_ | apply l3_)⟩⟩
 case round =>
  clear H'
  obtain ⟨x3_1, rfl, HA, HK1, HB⟩ := hrel
  cases gk with
  | zero => exact absurd HA.out (by simp [jobshellref04_Valid.l0])
  | succ k1 =>
   have H := HA.out
   clear HA
   simp only [jobshellref04_Valid.l0] at H
   by_cases c2 : x3_1 < (l0.length : Int)
   ·
    rw [if_pos c2] at H
    have c2b0 : decide (x3_1 < (l0.length : Int)) = true := decide_eq_true c2
    clear c2
    by_cases c3 : 0 ≤ x3_1
    ·
     rw [if_pos c3] at H
     have c3b0 : decide (0 ≤ x3_1) = true := decide_eq_true c3
     clear c3
     by_cases c4 : ((rd_T35 l0 x3_1).f0) = 1
     ·
      rw [if_pos c4] at H
      have c4b0 : (((rd_T35 l0 x3_1).f0) == 1) = true := beq_iff_eq.mpr c4
      have c4b1 : (((rd_T35 l0 x3_1).f0) != 1) = false := bne_eq_false_iff_eq.mpr c4
      clear c4
      by_cases c5 : ((rd_T35 l0 x3_1).f0) < 1
      ·
       rw [if_pos c5] at H
       have c5b0 : decide (((rd_T35 l0 x3_1).f0) < 1) = true := decide_eq_true c5
       clear c5
       obtain rfl := Option.some.inj H
       have p511 : 0 ≤ (x3_1 : Int) := o1_ (by with_reducible assumption)
       have q511 : x3_1 < (l0.length : Int) := o1_ (by with_reducible assumption)
       obtain ⟨ad511, A511_3, c511_3, e511, hx511_0, hx511_1, hx511_2, hx511_3, hl511_3, hi511_3⟩ := at_T35 HR0.out x3_1 p511 q511
       cases e511
       replace hx511_0 := (HB.out.cell (c1_ w _ hx511_0)).trans hx511_0
       replace hx511_1 := (HB.out.cell (c1_ w _ hx511_1)).trans hx511_1
       replace hx511_2 := (HB.out.cell (c1_ w _ hx511_2)).trans hx511_2
       replace hx511_3 := (HB.out.cell (c1_ w _ hx511_3)).trans hx511_3
       have HR511_3 := m_ hi511_3
       have HC511_3 := m_ hl511_3
       clear hi511_3 hl511_3
       replace p511 := eq_true p511
       replace q511 := eq_true q511
       go_wp2_with (first | ((with_reducible refine gate_dst (N := 4) rfl ?_); (try (refine gate_guard (by rfl) ?_; dsimp only)); refine box_event ?hg (N := 4) ?hd (cs := #[.int .i64 0, .string (⟨#[]⟩ : ByteArray), .bool false, .slice none 0 0]) (t := 35) ?hr ?_; (case hd => rfl); (case hg => rfl); (case hr => first | (go_simp; done) | (go_simp; rfl)); intro gb512 hg w6 hbox hb; have BK512 := m_ (hbox); have GW512 := m_ ((by rw [hg]; exact (l6_ (by repeat (with_reducible first | exact HB.out | apply l1_ | apply l2_ | apply l3_))) : w.heap.size ≤ gb512)); have GE512 := m_ ((by rw [hg]; exact (l6_ (by repeat (with_reducible first | exact HB.out | apply l1_ | apply l2_ | apply l3_))) : w.heap.size ≤ gb512)); replace HB := m_ (l5_ (by repeat (with_reducible first | exact HB.out | apply l1_ | apply l2_ | apply l3_)) hb); clear hb hbox hg; have hcz7_0 : w6.cell? ⟨gb512, 0, none⟩ = some (.int .i64 0) := (b5_ BK512.out 0).trans rfl; have hcz7_1 : w6.cell? ⟨gb512, 1, none⟩ = some (.string (⟨#[]⟩ : ByteArray)) := (b5_ BK512.out 1).trans rfl; have hcz7_2 : w6.cell? ⟨gb512, 2, none⟩ = some (.bool false) := (b5_ BK512.out 2).trans rfl; have hcz7_3 : w6.cell? ⟨gb512, 3, none⟩ = some (.slice none 0 0) := (b5_ BK512.out 3).trans rfl; have hfz7_0 := f1_ BK512.out 0; have hfz7_1 := f1_ BK512.out 1; have hfz7_2 := f1_ BK512.out 2; have hfz7_3 := f1_ BK512.out 3))
       go_ret
       exact ⟨by first | rfl | (simp [errW_none, errW_some] <;> rfl) | (simp [*, errW_none, errW_some] <;> rfl), by repeat (with_reducible first | exact HB.out | apply l1_ | apply l2_ | apply l3_ | refine l4_ ?_ GE512.out)⟩
      rw [if_neg c5] at H
      have c5b0 : decide (((rd_T35 l0 x3_1).f0) < 1) = false := decide_eq_false c5
      clear c5
      by_cases c8 : ((rd_T35 l0 x3_1).f0) > 4
      ·
       rw [if_pos c8] at H
       have c8b0 : decide (4 < ((rd_T35 l0 x3_1).f0)) = true := decide_eq_true c8
       clear c8
       obtain rfl := Option.some.inj H
       have p511 : 0 ≤ (x3_1 : Int) := o1_ (by with_reducible assumption)
       have q511 : x3_1 < (l0.length : Int) := o1_ (by with_reducible assumption)
       obtain ⟨ad511, A511_3, c511_3, e511, hx511_0, hx511_1, hx511_2, hx511_3, hl511_3, hi511_3⟩ := at_T35 HR0.out x3_1 p511 q511
       cases e511
       replace hx511_0 := (HB.out.cell (c1_ w _ hx511_0)).trans hx511_0
       replace hx511_1 := (HB.out.cell (c1_ w _ hx511_1)).trans hx511_1
       replace hx511_2 := (HB.out.cell (c1_ w _ hx511_2)).trans hx511_2
       replace hx511_3 := (HB.out.cell (c1_ w _ hx511_3)).trans hx511_3
       have HR511_3 := m_ hi511_3
       have HC511_3 := m_ hl511_3
       clear hi511_3 hl511_3
       replace p511 := eq_true p511
       replace q511 := eq_true q511
       go_wp2_with (first | ((with_reducible refine gate_dst (N := 4) rfl ?_); (try (refine gate_guard (by rfl) ?_; dsimp only)); refine box_event ?hg (N := 4) ?hd (cs := #[.int .i64 0, .string (⟨#[]⟩ : ByteArray), .bool false, .slice none 0 0]) (t := 35) ?hr ?_; (case hd => rfl); (case hg => rfl); (case hr => first | (go_simp; done) | (go_simp; rfl)); intro gb512 hg w9 hbox hb; have BK512 := m_ (hbox); have GW512 := m_ ((by rw [hg]; exact (l6_ (by repeat (with_reducible first | exact HB.out | apply l1_ | apply l2_ | apply l3_))) : w.heap.size ≤ gb512)); have GE512 := m_ ((by rw [hg]; exact (l6_ (by repeat (with_reducible first | exact HB.out | apply l1_ | apply l2_ | apply l3_))) : w.heap.size ≤ gb512)); replace HB := m_ (l5_ (by repeat (with_reducible first | exact HB.out | apply l1_ | apply l2_ | apply l3_)) hb); clear hb hbox hg; have hcz10_0 : w9.cell? ⟨gb512, 0, none⟩ = some (.int .i64 0) := (b5_ BK512.out 0).trans rfl; have hcz10_1 : w9.cell? ⟨gb512, 1, none⟩ = some (.string (⟨#[]⟩ : ByteArray)) := (b5_ BK512.out 1).trans rfl; have hcz10_2 : w9.cell? ⟨gb512, 2, none⟩ = some (.bool false) := (b5_ BK512.out 2).trans rfl; have hcz10_3 : w9.cell? ⟨gb512, 3, none⟩ = some (.slice none 0 0) := (b5_ BK512.out 3).trans rfl; have hfz10_0 := f1_ BK512.out 0; have hfz10_1 := f1_ BK512.out 1; have hfz10_2 := f1_ BK512.out 2; have hfz10_3 := f1_ BK512.out 3))
       go_ret
       exact ⟨by first | rfl | (simp [errW_none, errW_some] <;> rfl) | (simp [*, errW_none, errW_some] <;> rfl), by repeat (with_reducible first | exact HB.out | apply l1_ | apply l2_ | apply l3_ | refine l4_ ?_ GE512.out)⟩
      rw [if_neg c8] at H
      have c8b0 : decide (4 < ((rd_T35 l0 x3_1).f0)) = false := decide_eq_false c8
      clear c8
      by_cases c11 : (((rd_T35 l0 x3_1).f1).size : Int) = 1
      ·
       rw [if_pos c11] at H
       have c11b0 : ((((rd_T35 l0 x3_1).f1).size : Int) == 1) = true := beq_iff_eq.mpr c11
       have c11b1 : ((((rd_T35 l0 x3_1).f1).size : Int) != 1) = false := bne_eq_false_iff_eq.mpr c11
       clear c11
       by_cases c12 : ((rd_T35 l0 x3_1).f0) = 4
       ·
        rw [if_pos c12] at H
        have c12b0 : (((rd_T35 l0 x3_1).f0) == 4) = true := beq_iff_eq.mpr c12
        have c12b1 : (((rd_T35 l0 x3_1).f0) != 4) = false := bne_eq_false_iff_eq.mpr c12
        clear c12
        replace H := Option.bind_eq_some_iff.mp H
        obtain ⟨t513, A130, H⟩ := H
        try dsimp -simprocs only at H
        have A13 := m_ A130
        clear A130
        by_cases c14 : t513 = true
        ·
         subst c14
         rw [if_pos rfl] at H
         have H' := m_ H
         clear H
         have p511 : 0 ≤ (x3_1 : Int) := o1_ (by with_reducible assumption)
         have q511 : x3_1 < (l0.length : Int) := o1_ (by with_reducible assumption)
         obtain ⟨ad511, A511_3, c511_3, e511, hx511_0, hx511_1, hx511_2, hx511_3, hl511_3, hi511_3⟩ := at_T35 HR0.out x3_1 p511 q511
         cases e511
         replace hx511_0 := (HB.out.cell (c1_ w _ hx511_0)).trans hx511_0
         replace hx511_1 := (HB.out.cell (c1_ w _ hx511_1)).trans hx511_1
         replace hx511_2 := (HB.out.cell (c1_ w _ hx511_2)).trans hx511_2
         replace hx511_3 := (HB.out.cell (c1_ w _ hx511_3)).trans hx511_3
         have HR511_3 := m_ hi511_3
         have HC511_3 := m_ hl511_3
         clear hi511_3 hl511_3
         replace p511 := eq_true p511
         replace q511 := eq_true q511
         go_wp2_with (first | ((with_reducible refine gate_dst (N := 4) rfl ?_); (try (refine gate_guard (by rfl) ?_; dsimp only)); refine box_event ?hg (N := 4) ?hd (cs := #[.int .i64 0, .string (⟨#[]⟩ : ByteArray), .bool false, .slice none 0 0]) (t := 35) ?hr ?_; (case hd => rfl); (case hg => rfl); (case hr => first | (go_simp; done) | (go_simp; rfl)); intro gb512 hg w15 hbox hb; have BK512 := m_ (hbox); have GW512 := m_ ((by rw [hg]; exact (l6_ (by repeat (with_reducible first | exact HB.out | apply l1_ | apply l2_ | apply l3_))) : w.heap.size ≤ gb512)); have GE512 := m_ ((by rw [hg]; exact (l6_ (by repeat (with_reducible first | exact HB.out | apply l1_ | apply l2_ | apply l3_))) : w.heap.size ≤ gb512)); replace HB := m_ (l5_ (by repeat (with_reducible first | exact HB.out | apply l1_ | apply l2_ | apply l3_)) hb); clear hb hbox hg; have hcz16_0 : w15.cell? ⟨gb512, 0, none⟩ = some (.int .i64 0) := (b5_ BK512.out 0).trans rfl; have hcz16_1 : w15.cell? ⟨gb512, 1, none⟩ = some (.string (⟨#[]⟩ : ByteArray)) := (b5_ BK512.out 1).trans rfl; have hcz16_2 : w15.cell? ⟨gb512, 2, none⟩ = some (.bool false) := (b5_ BK512.out 2).trans rfl; have hcz16_3 : w15.cell? ⟨gb512, 3, none⟩ = some (.slice none 0 0) := (b5_ BK512.out 3).trans rfl; have hfz16_0 := f1_ BK512.out 0; have hfz16_1 := f1_ BK512.out 1; have hfz16_2 := f1_ BK512.out 2; have hfz16_3 := f1_ BK512.out 3) | (go_at_call 42; (with_reducible refine (jobshellref04_ascending.calls k1 _ _ ((rd_T35 l0 x3_1).f3) true _ ?side1 ?side2 A13.out).mono ?_); (case side1 => exact Kd.C_below HR511_3.out (by repeat (with_reducible first | exact HB.out | apply l1_ | apply l2_ | apply l3_ | refine l4_ ?_ GE512.out))); (case side2 => exact HC511_3.out); rintro e w' ⟨rfl, ⟨nd, rfl⟩⟩))
         go_roundg k1
         case measure => have := HK1.out; omega
         case rel => exact ⟨(wrap64 (x3_1 + 1)), (by first | rfl | (simp; done) | (simp [*]; done)), H', ⟨by have := HK1.out; omega⟩, ⟨by repeat (with_reducible first | exact HB.out | apply l1_ | apply l2_ | apply l3_ | refine l4_ ?_ GE512.out)⟩⟩
        ·
         replace c14 := Bool.eq_false_iff.mpr c14
         subst c14
         rw [if_neg (show ¬ (false = true) by decide)] at H
         obtain rfl := Option.some.inj H
         have p511 : 0 ≤ (x3_1 : Int) := o1_ (by with_reducible assumption)
         have q511 : x3_1 < (l0.length : Int) := o1_ (by with_reducible assumption)
         obtain ⟨ad511, A511_3, c511_3, e511, hx511_0, hx511_1, hx511_2, hx511_3, hl511_3, hi511_3⟩ := at_T35 HR0.out x3_1 p511 q511
         cases e511
         replace hx511_0 := (HB.out.cell (c1_ w _ hx511_0)).trans hx511_0
         replace hx511_1 := (HB.out.cell (c1_ w _ hx511_1)).trans hx511_1
         replace hx511_2 := (HB.out.cell (c1_ w _ hx511_2)).trans hx511_2
         replace hx511_3 := (HB.out.cell (c1_ w _ hx511_3)).trans hx511_3
         have HR511_3 := m_ hi511_3
         have HC511_3 := m_ hl511_3
         clear hi511_3 hl511_3
         replace p511 := eq_true p511
         replace q511 := eq_true q511
         go_wp2_with (first | ((with_reducible refine gate_dst (N := 4) rfl ?_); (try (refine gate_guard (by rfl) ?_; dsimp only)); refine box_event ?hg (N := 4) ?hd (cs := #[.int .i64 0, .string (⟨#[]⟩ : ByteArray), .bool false, .slice none 0 0]) (t := 35) ?hr ?_; (case hd => rfl); (case hg => rfl); (case hr => first | (go_simp; done) | (go_simp; rfl)); intro gb512 hg w17 hbox hb; have BK512 := m_ (hbox); have GW512 := m_ ((by rw [hg]; exact (l6_ (by repeat (with_reducible first | exact HB.out | apply l1_ | apply l2_ | apply l3_))) : w.heap.size ≤ gb512)); have GE512 := m_ ((by rw [hg]; exact (l6_ (by repeat (with_reducible first | exact HB.out | apply l1_ | apply l2_ | apply l3_))) : w.heap.size ≤ gb512)); replace HB := m_ (l5_ (by repeat (with_reducible first | exact HB.out | apply l1_ | apply l2_ | apply l3_)) hb); clear hb hbox hg; have hcz18_0 : w17.cell? ⟨gb512, 0, none⟩ = some (.int .i64 0) := (b5_ BK512.out 0).trans rfl; have hcz18_1 : w17.cell? ⟨gb512, 1, none⟩ = some (.string (⟨#[]⟩ : ByteArray)) := (b5_ BK512.out 1).trans rfl; have hcz18_2 : w17.cell? ⟨gb512, 2, none⟩ = some (.bool false) := (b5_ BK512.out 2).trans rfl; have hcz18_3 : w17.cell? ⟨gb512, 3, none⟩ = some (.slice none 0 0) := (b5_ BK512.out 3).trans rfl; have hfz18_0 := f1_ BK512.out 0; have hfz18_1 := f1_ BK512.out 1; have hfz18_2 := f1_ BK512.out 2; have hfz18_3 := f1_ BK512.out 3) | (go_at_call 42; (with_reducible refine (jobshellref04_ascending.calls k1 _ _ ((rd_T35 l0 x3_1).f3) false _ ?side1 ?side2 A13.out).mono ?_); (case side1 => exact Kd.C_below HR511_3.out (by repeat (with_reducible first | exact HB.out | apply l1_ | apply l2_ | apply l3_ | refine l4_ ?_ GE512.out))); (case side2 => exact HC511_3.out); rintro e w' ⟨rfl, ⟨nd, rfl⟩⟩))
         go_ret
         exact ⟨by first | rfl | (simp [errW_none, errW_some] <;> rfl) | (simp [*, errW_none, errW_some] <;> rfl), by repeat (with_reducible first | exact HB.out | apply l1_ | apply l2_ | apply l3_ | refine l4_ ?_ GE512.out)⟩
       rw [if_neg c12] at H
       have c12b0 : (((rd_T35 l0 x3_1).f0) == 4) = false := beq_eq_false_iff_ne.mpr c12
       have c12b1 : (((rd_T35 l0 x3_1).f0) != 4) = true := bne_iff_ne.mpr c12
       obtain ⟨bq19, hbq19⟩ : ∃ b_ : Bool, b_ = ((rd_T35 l0 x3_1).f2) := ⟨_, rfl⟩
       replace H : (if bq19 = true then (some false) else (if (((rd_T35 l0 x3_1).f3).length : Int) > 0 then (some false) else ((jobshellref04_ascending.f k1 ((rd_T35 l0 x3_1).f3)).bind fun t514 => (if t514 = true then (jobshellref04_Valid.l0 k1 l0 (wrap64 (x3_1 + 1))) else (some false))))) = some r := by rw [← hbq19] at H; exact H
       have Nbq19 := m_ hbq19
       clear hbq19
       by_cases c20 : bq19 = true
       ·
        subst c20
        rw [if_pos rfl] at H
        obtain rfl := Option.some.inj H
        have p511 : 0 ≤ (x3_1 : Int) := o1_ (by with_reducible assumption)
        have q511 : x3_1 < (l0.length : Int) := o1_ (by with_reducible assumption)
        obtain ⟨ad511, A511_3, c511_3, e511, hx511_0, hx511_1, hx511_2, hx511_3, hl511_3, hi511_3⟩ := at_T35 HR0.out x3_1 p511 q511
        (try rw [← Nbq19.out] at hx511_2)
        cases e511
        replace hx511_0 := (HB.out.cell (c1_ w _ hx511_0)).trans hx511_0
        replace hx511_1 := (HB.out.cell (c1_ w _ hx511_1)).trans hx511_1
        replace hx511_2 := (HB.out.cell (c1_ w _ hx511_2)).trans hx511_2
        replace hx511_3 := (HB.out.cell (c1_ w _ hx511_3)).trans hx511_3
        have HR511_3 := m_ hi511_3
        have HC511_3 := m_ hl511_3
        clear hi511_3 hl511_3
        replace p511 := eq_true p511
        replace q511 := eq_true q511
        go_wp2_with (first | ((with_reducible refine gate_dst (N := 4) rfl ?_); (try (refine gate_guard (by rfl) ?_; dsimp only)); refine box_event ?hg (N := 4) ?hd (cs := #[.int .i64 0, .string (⟨#[]⟩ : ByteArray), .bool false, .slice none 0 0]) (t := 35) ?hr ?_; (case hd => rfl); (case hg => rfl); (case hr => first | (go_simp; done) | (go_simp; rfl)); intro gb512 hg w21 hbox hb; have BK512 := m_ (hbox); have GW512 := m_ ((by rw [hg]; exact (l6_ (by repeat (with_reducible first | exact HB.out | apply l1_ | apply l2_ | apply l3_))) : w.heap.size ≤ gb512)); have GE512 := m_ ((by rw [hg]; exact (l6_ (by repeat (with_reducible first | exact HB.out | apply l1_ | apply l2_ | apply l3_))) : w.heap.size ≤ gb512)); replace HB := m_ (l5_ (by repeat (with_reducible first | exact HB.out | apply l1_ | apply l2_ | apply l3_)) hb); clear hb hbox hg; have hcz22_0 : w21.cell? ⟨gb512, 0, none⟩ = some (.int .i64 0) := (b5_ BK512.out 0).trans rfl; have hcz22_1 : w21.cell? ⟨gb512, 1, none⟩ = some (.string (⟨#[]⟩ : ByteArray)) := (b5_ BK512.out 1).trans rfl; have hcz22_2 : w21.cell? ⟨gb512, 2, none⟩ = some (.bool false) := (b5_ BK512.out 2).trans rfl; have hcz22_3 : w21.cell? ⟨gb512, 3, none⟩ = some (.slice none 0 0) := (b5_ BK512.out 3).trans rfl; have hfz22_0 := f1_ BK512.out 0; have hfz22_1 := f1_ BK512.out 1; have hfz22_2 := f1_ BK512.out 2; have hfz22_3 := f1_ BK512.out 3))
        go_ret
        exact ⟨by first | rfl | (simp [errW_none, errW_some] <;> rfl) | (simp [*, errW_none, errW_some] <;> rfl), by repeat (with_reducible first | exact HB.out | apply l1_ | apply l2_ | apply l3_ | refine l4_ ?_ GE512.out)⟩
       ·
        replace c20 := Bool.eq_false_iff.mpr c20
        subst c20
        rw [if_neg (show ¬ (false = true) by decide)] at H
        by_cases c23 : (((rd_T35 l0 x3_1).f3).length : Int) > 0
        ·
         rw [if_pos c23] at H
         have c23b0 : decide (0 < (((rd_T35 l0 x3_1).f3).length : Int)) = true := decide_eq_true c23
         have c23b1 : decide (0 < ((rd_T35 l0 x3_1).f3).length) = true := decide_eq_true (by omega)
         clear c23
         obtain rfl := Option.some.inj H
         have p511 : 0 ≤ (x3_1 : Int) := o1_ (by with_reducible assumption)
         have q511 : x3_1 < (l0.length : Int) := o1_ (by with_reducible assumption)
         obtain ⟨ad511, A511_3, c511_3, e511, hx511_0, hx511_1, hx511_2, hx511_3, hl511_3, hi511_3⟩ := at_T35 HR0.out x3_1 p511 q511
         (try rw [← Nbq19.out] at hx511_2)
         cases e511
         replace hx511_0 := (HB.out.cell (c1_ w _ hx511_0)).trans hx511_0
         replace hx511_1 := (HB.out.cell (c1_ w _ hx511_1)).trans hx511_1
         replace hx511_2 := (HB.out.cell (c1_ w _ hx511_2)).trans hx511_2
         replace hx511_3 := (HB.out.cell (c1_ w _ hx511_3)).trans hx511_3
         have HR511_3 := m_ hi511_3
         have HC511_3 := m_ hl511_3
         clear hi511_3 hl511_3
         replace p511 := eq_true p511
         replace q511 := eq_true q511
         go_wp2_with (first | ((with_reducible refine gate_dst (N := 4) rfl ?_); (try (refine gate_guard (by rfl) ?_; dsimp only)); refine box_event ?hg (N := 4) ?hd (cs := #[.int .i64 0, .string (⟨#[]⟩ : ByteArray), .bool false, .slice none 0 0]) (t := 35) ?hr ?_; (case hd => rfl); (case hg => rfl); (case hr => first | (go_simp; done) | (go_simp; rfl)); intro gb512 hg w24 hbox hb; have BK512 := m_ (hbox); have GW512 := m_ ((by rw [hg]; exact (l6_ (by repeat (with_reducible first | exact HB.out | apply l1_ | apply l2_ | apply l3_))) : w.heap.size ≤ gb512)); have GE512 := m_ ((by rw [hg]; exact (l6_ (by repeat (with_reducible first | exact HB.out | apply l1_ | apply l2_ | apply l3_))) : w.heap.size ≤ gb512)); replace HB := m_ (l5_ (by repeat (with_reducible first | exact HB.out | apply l1_ | apply l2_ | apply l3_)) hb); clear hb hbox hg; have hcz25_0 : w24.cell? ⟨gb512, 0, none⟩ = some (.int .i64 0) := (b5_ BK512.out 0).trans rfl; have hcz25_1 : w24.cell? ⟨gb512, 1, none⟩ = some (.string (⟨#[]⟩ : ByteArray)) := (b5_ BK512.out 1).trans rfl; have hcz25_2 : w24.cell? ⟨gb512, 2, none⟩ = some (.bool false) := (b5_ BK512.out 2).trans rfl; have hcz25_3 : w24.cell? ⟨gb512, 3, none⟩ = some (.slice none 0 0) := (b5_ BK512.out 3).trans rfl; have hfz25_0 := f1_ BK512.out 0; have hfz25_1 := f1_ BK512.out 1; have hfz25_2 := f1_ BK512.out 2; have hfz25_3 := f1_ BK512.out 3))
         go_ret
         exact ⟨by first | rfl | (simp [errW_none, errW_some] <;> rfl) | (simp [*, errW_none, errW_some] <;> rfl), by repeat (with_reducible first | exact HB.out | apply l1_ | apply l2_ | apply l3_ | refine l4_ ?_ GE512.out)⟩
        rw [if_neg c23] at H
        have c23b0 : decide (0 < (((rd_T35 l0 x3_1).f3).length : Int)) = false := decide_eq_false c23
        have c23b1 : decide (0 < ((rd_T35 l0 x3_1).f3).length) = false := decide_eq_false (by omega)
        clear c23
        replace H := Option.bind_eq_some_iff.mp H
        obtain ⟨t514, A260, H⟩ := H
        try dsimp -simprocs only at H
        have A26 := m_ A260
        clear A260
        by_cases c27 : t514 = true
        ·
         subst c27
         rw [if_pos rfl] at H
         have H' := m_ H
         clear H
         have p511 : 0 ≤ (x3_1 : Int) := o1_ (by with_reducible assumption)
         have q511 : x3_1 < (l0.length : Int) := o1_ (by with_reducible assumption)
         obtain ⟨ad511, A511_3, c511_3, e511, hx511_0, hx511_1, hx511_2, hx511_3, hl511_3, hi511_3⟩ := at_T35 HR0.out x3_1 p511 q511
         (try rw [← Nbq19.out] at hx511_2)
         cases e511
         replace hx511_0 := (HB.out.cell (c1_ w _ hx511_0)).trans hx511_0
         replace hx511_1 := (HB.out.cell (c1_ w _ hx511_1)).trans hx511_1
         replace hx511_2 := (HB.out.cell (c1_ w _ hx511_2)).trans hx511_2
         replace hx511_3 := (HB.out.cell (c1_ w _ hx511_3)).trans hx511_3
         have HR511_3 := m_ hi511_3
         have HC511_3 := m_ hl511_3
         clear hi511_3 hl511_3
         replace p511 := eq_true p511
         replace q511 := eq_true q511
         go_wp2_with (first | ((with_reducible refine gate_dst (N := 4) rfl ?_); (try (refine gate_guard (by rfl) ?_; dsimp only)); refine box_event ?hg (N := 4) ?hd (cs := #[.int .i64 0, .string (⟨#[]⟩ : ByteArray), .bool false, .slice none 0 0]) (t := 35) ?hr ?_; (case hd => rfl); (case hg => rfl); (case hr => first | (go_simp; done) | (go_simp; rfl)); intro gb512 hg w28 hbox hb; have BK512 := m_ (hbox); have GW512 := m_ ((by rw [hg]; exact (l6_ (by repeat (with_reducible first | exact HB.out | apply l1_ | apply l2_ | apply l3_))) : w.heap.size ≤ gb512)); have GE512 := m_ ((by rw [hg]; exact (l6_ (by repeat (with_reducible first | exact HB.out | apply l1_ | apply l2_ | apply l3_))) : w.heap.size ≤ gb512)); replace HB := m_ (l5_ (by repeat (with_reducible first | exact HB.out | apply l1_ | apply l2_ | apply l3_)) hb); clear hb hbox hg; have hcz29_0 : w28.cell? ⟨gb512, 0, none⟩ = some (.int .i64 0) := (b5_ BK512.out 0).trans rfl; have hcz29_1 : w28.cell? ⟨gb512, 1, none⟩ = some (.string (⟨#[]⟩ : ByteArray)) := (b5_ BK512.out 1).trans rfl; have hcz29_2 : w28.cell? ⟨gb512, 2, none⟩ = some (.bool false) := (b5_ BK512.out 2).trans rfl; have hcz29_3 : w28.cell? ⟨gb512, 3, none⟩ = some (.slice none 0 0) := (b5_ BK512.out 3).trans rfl; have hfz29_0 := f1_ BK512.out 0; have hfz29_1 := f1_ BK512.out 1; have hfz29_2 := f1_ BK512.out 2; have hfz29_3 := f1_ BK512.out 3) | (go_at_call 42; (with_reducible refine (jobshellref04_ascending.calls k1 _ _ ((rd_T35 l0 x3_1).f3) true _ ?side1 ?side2 A26.out).mono ?_); (case side1 => exact Kd.C_below HR511_3.out (by repeat (with_reducible first | exact HB.out | apply l1_ | apply l2_ | apply l3_ | refine l4_ ?_ GE512.out))); (case side2 => exact HC511_3.out); rintro e w' ⟨rfl, ⟨nd, rfl⟩⟩))
         go_roundg k1
         case measure => have := HK1.out; omega
         case rel => exact ⟨(wrap64 (x3_1 + 1)), (by first | rfl | (simp; done) | (simp [*]; done)), H', ⟨by have := HK1.out; omega⟩, ⟨by repeat (with_reducible first | exact HB.out | apply l1_ | apply l2_ | apply l3_ | refine l4_ ?_ GE512.out)⟩⟩
        ·
         replace c27 := Bool.eq_false_iff.mpr c27
         subst c27
         rw [if_neg (show ¬ (false = true) by decide)] at H
         obtain rfl := Option.some.inj H
         have p511 : 0 ≤ (x3_1 : Int) := o1_ (by with_reducible assumption)
         have q511 : x3_1 < (l0.length : Int) := o1_ (by with_reducible assumption)
         obtain ⟨ad511, A511_3, c511_3, e511, hx511_0, hx511_1, hx511_2, hx511_3, hl511_3, hi511_3⟩ := at_T35 HR0.out x3_1 p511 q511
         (try rw [← Nbq19.out] at hx511_2)
         cases e511
         replace hx511_0 := (HB.out.cell (c1_ w _ hx511_0)).trans hx511_0
         replace hx511_1 := (HB.out.cell (c1_ w _ hx511_1)).trans hx511_1
         replace hx511_2 := (HB.out.cell (c1_ w _ hx511_2)).trans hx511_2
         replace hx511_3 := (HB.out.cell (c1_ w _ hx511_3)).trans hx511_3
         have HR511_3 := m_ hi511_3
         have HC511_3 := m_ hl511_3
         clear hi511_3 hl511_3
         replace p511 := eq_true p511
         replace q511 := eq_true q511
         go_wp2_with (first | ((with_reducible refine gate_dst (N := 4) rfl ?_); (try (refine gate_guard (by rfl) ?_; dsimp only)); refine box_event ?hg (N := 4) ?hd (cs := #[.int .i64 0, .string (⟨#[]⟩ : ByteArray), .bool false, .slice none 0 0]) (t := 35) ?hr ?_; (case hd => rfl); (case hg => rfl); (case hr => first | (go_simp; done) | (go_simp; rfl)); intro gb512 hg w30 hbox hb; have BK512 := m_ (hbox); have GW512 := m_ ((by rw [hg]; exact (l6_ (by repeat (with_reducible first | exact HB.out | apply l1_ | apply l2_ | apply l3_))) : w.heap.size ≤ gb512)); have GE512 := m_ ((by rw [hg]; exact (l6_ (by repeat (with_reducible first | exact HB.out | apply l1_ | apply l2_ | apply l3_))) : w.heap.size ≤ gb512)); replace HB := m_ (l5_ (by repeat (with_reducible first | exact HB.out | apply l1_ | apply l2_ | apply l3_)) hb); clear hb hbox hg; have hcz31_0 : w30.cell? ⟨gb512, 0, none⟩ = some (.int .i64 0) := (b5_ BK512.out 0).trans rfl; have hcz31_1 : w30.cell? ⟨gb512, 1, none⟩ = some (.string (⟨#[]⟩ : ByteArray)) := (b5_ BK512.out 1).trans rfl; have hcz31_2 : w30.cell? ⟨gb512, 2, none⟩ = some (.bool false) := (b5_ BK512.out 2).trans rfl; have hcz31_3 : w30.cell? ⟨gb512, 3, none⟩ = some (.slice none 0 0) := (b5_ BK512.out 3).trans rfl; have hfz31_0 := f1_ BK512.out 0; have hfz31_1 := f1_ BK512.out 1; have hfz31_2 := f1_ BK512.out 2; have hfz31_3 := f1_ BK512.out 3) | (go_at_call 42; (with_reducible refine (jobshellref04_ascending.calls k1 _ _ ((rd_T35 l0 x3_1).f3) false _ ?side1 ?side2 A26.out).mono ?_); (case side1 => exact Kd.C_below HR511_3.out (by repeat (with_reducible first | exact HB.out | apply l1_ | apply l2_ | apply l3_ | refine l4_ ?_ GE512.out))); (case side2 => exact HC511_3.out); rintro e w' ⟨rfl, ⟨nd, rfl⟩⟩))
         go_ret
         exact ⟨by first | rfl | (simp [errW_none, errW_some] <;> rfl) | (simp [*, errW_none, errW_some] <;> rfl), by repeat (with_reducible first | exact HB.out | apply l1_ | apply l2_ | apply l3_ | refine l4_ ?_ GE512.out)⟩
      rw [if_neg c11] at H
      have c11b0 : ((((rd_T35 l0 x3_1).f1).size : Int) == 1) = false := beq_eq_false_iff_ne.mpr c11
      have c11b1 : ((((rd_T35 l0 x3_1).f1).size : Int) != 1) = true := bne_iff_ne.mpr c11
      obtain rfl := Option.some.inj H
      have p511 : 0 ≤ (x3_1 : Int) := o1_ (by with_reducible assumption)
      have q511 : x3_1 < (l0.length : Int) := o1_ (by with_reducible assumption)
      obtain ⟨ad511, A511_3, c511_3, e511, hx511_0, hx511_1, hx511_2, hx511_3, hl511_3, hi511_3⟩ := at_T35 HR0.out x3_1 p511 q511
      cases e511
      replace hx511_0 := (HB.out.cell (c1_ w _ hx511_0)).trans hx511_0
      replace hx511_1 := (HB.out.cell (c1_ w _ hx511_1)).trans hx511_1
      replace hx511_2 := (HB.out.cell (c1_ w _ hx511_2)).trans hx511_2
      replace hx511_3 := (HB.out.cell (c1_ w _ hx511_3)).trans hx511_3
      have HR511_3 := m_ hi511_3
      have HC511_3 := m_ hl511_3
      clear hi511_3 hl511_3
      replace p511 := eq_true p511
      replace q511 := eq_true q511
      go_wp2_with (first | ((with_reducible refine gate_dst (N := 4) rfl ?_); (try (refine gate_guard (by rfl) ?_; dsimp only)); refine box_event ?hg (N := 4) ?hd (cs := #[.int .i64 0, .string (⟨#[]⟩ : ByteArray), .bool false, .slice none 0 0]) (t := 35) ?hr ?_; (case hd => rfl); (case hg => rfl); (case hr => first | (go_simp; done) | (go_simp; rfl)); intro gb512 hg w32 hbox hb; have BK512 := m_ (hbox); have GW512 := m_ ((by rw [hg]; exact (l6_ (by repeat (with_reducible first | exact HB.out | apply l1_ | apply l2_ | apply l3_))) : w.heap.size ≤ gb512)); have GE512 := m_ ((by rw [hg]; exact (l6_ (by repeat (with_reducible first | exact HB.out | apply l1_ | apply l2_ | apply l3_))) : w.heap.size ≤ gb512)); replace HB := m_ (l5_ (by repeat (with_reducible first | exact HB.out | apply l1_ | apply l2_ | apply l3_)) hb); clear hb hbox hg; have hcz33_0 : w32.cell? ⟨gb512, 0, none⟩ = some (.int .i64 0) := (b5_ BK512.out 0).trans rfl; have hcz33_1 : w32.cell? ⟨gb512, 1, none⟩ = some (.string (⟨#[]⟩ : ByteArray)) := (b5_ BK512.out 1).trans rfl; have hcz33_2 : w32.cell? ⟨gb512, 2, none⟩ = some (.bool false) := (b5_ BK512.out 2).trans rfl; have hcz33_3 : w32.cell? ⟨gb512, 3, none⟩ = some (.slice none 0 0) := (b5_ BK512.out 3).trans rfl; have hfz33_0 := f1_ BK512.out 0; have hfz33_1 := f1_ BK512.out 1; have hfz33_2 := f1_ BK512.out 2; have hfz33_3 := f1_ BK512.out 3))
      go_ret
      exact ⟨by first | rfl | (simp [errW_none, errW_some] <;> rfl) | (simp [*, errW_none, errW_some] <;> rfl), by repeat (with_reducible first | exact HB.out | apply l1_ | apply l2_ | apply l3_ | refine l4_ ?_ GE512.out)⟩
     rw [if_neg c4] at H
     have c4b0 : (((rd_T35 l0 x3_1).f0) == 1) = false := beq_eq_false_iff_ne.mpr c4
     have c4b1 : (((rd_T35 l0 x3_1).f0) != 1) = true := bne_iff_ne.mpr c4
     by_cases c34 : ((rd_T35 l0 x3_1).f0) < 1
     ·
      rw [if_pos c34] at H
      have c34b0 : decide (((rd_T35 l0 x3_1).f0) < 1) = true := decide_eq_true c34
      clear c34
      obtain rfl := Option.some.inj H
      have p511 : 0 ≤ (x3_1 : Int) := o1_ (by with_reducible assumption)
      have q511 : x3_1 < (l0.length : Int) := o1_ (by with_reducible assumption)
      obtain ⟨ad511, A511_3, c511_3, e511, hx511_0, hx511_1, hx511_2, hx511_3, hl511_3, hi511_3⟩ := at_T35 HR0.out x3_1 p511 q511
      cases e511
      replace hx511_0 := (HB.out.cell (c1_ w _ hx511_0)).trans hx511_0
      replace hx511_1 := (HB.out.cell (c1_ w _ hx511_1)).trans hx511_1
      replace hx511_2 := (HB.out.cell (c1_ w _ hx511_2)).trans hx511_2
      replace hx511_3 := (HB.out.cell (c1_ w _ hx511_3)).trans hx511_3
      have HR511_3 := m_ hi511_3
      have HC511_3 := m_ hl511_3
      clear hi511_3 hl511_3
      replace p511 := eq_true p511
      replace q511 := eq_true q511
      go_wp2_with (first | ((with_reducible refine gate_dst (N := 4) rfl ?_); (try (refine gate_guard (by rfl) ?_; dsimp only)); refine box_event ?hg (N := 4) ?hd (cs := #[.int .i64 0, .string (⟨#[]⟩ : ByteArray), .bool false, .slice none 0 0]) (t := 35) ?hr ?_; (case hd => rfl); (case hg => rfl); (case hr => first | (go_simp; done) | (go_simp; rfl)); intro gb512 hg w35 hbox hb; have BK512 := m_ (hbox); have GW512 := m_ ((by rw [hg]; exact (l6_ (by repeat (with_reducible first | exact HB.out | apply l1_ | apply l2_ | apply l3_))) : w.heap.size ≤ gb512)); have GE512 := m_ ((by rw [hg]; exact (l6_ (by repeat (with_reducible first | exact HB.out | apply l1_ | apply l2_ | apply l3_))) : w.heap.size ≤ gb512)); replace HB := m_ (l5_ (by repeat (with_reducible first | exact HB.out | apply l1_ | apply l2_ | apply l3_)) hb); clear hb hbox hg; have hcz36_0 : w35.cell? ⟨gb512, 0, none⟩ = some (.int .i64 0) := (b5_ BK512.out 0).trans rfl; have hcz36_1 : w35.cell? ⟨gb512, 1, none⟩ = some (.string (⟨#[]⟩ : ByteArray)) := (b5_ BK512.out 1).trans rfl; have hcz36_2 : w35.cell? ⟨gb512, 2, none⟩ = some (.bool false) := (b5_ BK512.out 2).trans rfl; have hcz36_3 : w35.cell? ⟨gb512, 3, none⟩ = some (.slice none 0 0) := (b5_ BK512.out 3).trans rfl; have hfz36_0 := f1_ BK512.out 0; have hfz36_1 := f1_ BK512.out 1; have hfz36_2 := f1_ BK512.out 2; have hfz36_3 := f1_ BK512.out 3))
      go_ret
      exact ⟨by first | rfl | (simp [errW_none, errW_some] <;> rfl) | (simp [*, errW_none, errW_some] <;> rfl), by repeat (with_reducible first | exact HB.out | apply l1_ | apply l2_ | apply l3_ | refine l4_ ?_ GE512.out)⟩
     rw [if_neg c34] at H
     have c34b0 : decide (((rd_T35 l0 x3_1).f0) < 1) = false := decide_eq_false c34
     clear c34
     by_cases c37 : ((rd_T35 l0 x3_1).f0) > 4
     ·
      rw [if_pos c37] at H
      have c37b0 : decide (4 < ((rd_T35 l0 x3_1).f0)) = true := decide_eq_true c37
      clear c37
      obtain rfl := Option.some.inj H
      have p511 : 0 ≤ (x3_1 : Int) := o1_ (by with_reducible assumption)
      have q511 : x3_1 < (l0.length : Int) := o1_ (by with_reducible assumption)
      obtain ⟨ad511, A511_3, c511_3, e511, hx511_0, hx511_1, hx511_2, hx511_3, hl511_3, hi511_3⟩ := at_T35 HR0.out x3_1 p511 q511
      cases e511
      replace hx511_0 := (HB.out.cell (c1_ w _ hx511_0)).trans hx511_0
      replace hx511_1 := (HB.out.cell (c1_ w _ hx511_1)).trans hx511_1
      replace hx511_2 := (HB.out.cell (c1_ w _ hx511_2)).trans hx511_2
      replace hx511_3 := (HB.out.cell (c1_ w _ hx511_3)).trans hx511_3
      have HR511_3 := m_ hi511_3
      have HC511_3 := m_ hl511_3
      clear hi511_3 hl511_3
      replace p511 := eq_true p511
      replace q511 := eq_true q511
      go_wp2_with (first | ((with_reducible refine gate_dst (N := 4) rfl ?_); (try (refine gate_guard (by rfl) ?_; dsimp only)); refine box_event ?hg (N := 4) ?hd (cs := #[.int .i64 0, .string (⟨#[]⟩ : ByteArray), .bool false, .slice none 0 0]) (t := 35) ?hr ?_; (case hd => rfl); (case hg => rfl); (case hr => first | (go_simp; done) | (go_simp; rfl)); intro gb512 hg w38 hbox hb; have BK512 := m_ (hbox); have GW512 := m_ ((by rw [hg]; exact (l6_ (by repeat (with_reducible first | exact HB.out | apply l1_ | apply l2_ | apply l3_))) : w.heap.size ≤ gb512)); have GE512 := m_ ((by rw [hg]; exact (l6_ (by repeat (with_reducible first | exact HB.out | apply l1_ | apply l2_ | apply l3_))) : w.heap.size ≤ gb512)); replace HB := m_ (l5_ (by repeat (with_reducible first | exact HB.out | apply l1_ | apply l2_ | apply l3_)) hb); clear hb hbox hg; have hcz39_0 : w38.cell? ⟨gb512, 0, none⟩ = some (.int .i64 0) := (b5_ BK512.out 0).trans rfl; have hcz39_1 : w38.cell? ⟨gb512, 1, none⟩ = some (.string (⟨#[]⟩ : ByteArray)) := (b5_ BK512.out 1).trans rfl; have hcz39_2 : w38.cell? ⟨gb512, 2, none⟩ = some (.bool false) := (b5_ BK512.out 2).trans rfl; have hcz39_3 : w38.cell? ⟨gb512, 3, none⟩ = some (.slice none 0 0) := (b5_ BK512.out 3).trans rfl; have hfz39_0 := f1_ BK512.out 0; have hfz39_1 := f1_ BK512.out 1; have hfz39_2 := f1_ BK512.out 2; have hfz39_3 := f1_ BK512.out 3))
      go_ret
      exact ⟨by first | rfl | (simp [errW_none, errW_some] <;> rfl) | (simp [*, errW_none, errW_some] <;> rfl), by repeat (with_reducible first | exact HB.out | apply l1_ | apply l2_ | apply l3_ | refine l4_ ?_ GE512.out)⟩
     rw [if_neg c37] at H
     have c37b0 : decide (4 < ((rd_T35 l0 x3_1).f0)) = false := decide_eq_false c37
     clear c37
     by_cases c40 : (((rd_T35 l0 x3_1).f1).size : Int) = 0
     ·
      rw [if_pos c40] at H
      have c40b0 : ((((rd_T35 l0 x3_1).f1).size : Int) == 0) = true := beq_iff_eq.mpr c40
      have c40b1 : ((((rd_T35 l0 x3_1).f1).size : Int) != 0) = false := bne_eq_false_iff_eq.mpr c40
      clear c40
      by_cases c41 : ((rd_T35 l0 x3_1).f0) = 4
      ·
       rw [if_pos c41] at H
       have c41b0 : (((rd_T35 l0 x3_1).f0) == 4) = true := beq_iff_eq.mpr c41
       have c41b1 : (((rd_T35 l0 x3_1).f0) != 4) = false := bne_eq_false_iff_eq.mpr c41
       clear c41
       replace H := Option.bind_eq_some_iff.mp H
       obtain ⟨t515, A420, H⟩ := H
       try dsimp -simprocs only at H
       have A42 := m_ A420
       clear A420
       by_cases c43 : t515 = true
       ·
        subst c43
        rw [if_pos rfl] at H
        have H' := m_ H
        clear H
        have p511 : 0 ≤ (x3_1 : Int) := o1_ (by with_reducible assumption)
        have q511 : x3_1 < (l0.length : Int) := o1_ (by with_reducible assumption)
        obtain ⟨ad511, A511_3, c511_3, e511, hx511_0, hx511_1, hx511_2, hx511_3, hl511_3, hi511_3⟩ := at_T35 HR0.out x3_1 p511 q511
        cases e511
        replace hx511_0 := (HB.out.cell (c1_ w _ hx511_0)).trans hx511_0
        replace hx511_1 := (HB.out.cell (c1_ w _ hx511_1)).trans hx511_1
        replace hx511_2 := (HB.out.cell (c1_ w _ hx511_2)).trans hx511_2
        replace hx511_3 := (HB.out.cell (c1_ w _ hx511_3)).trans hx511_3
        have HR511_3 := m_ hi511_3
        have HC511_3 := m_ hl511_3
        clear hi511_3 hl511_3
        replace p511 := eq_true p511
        replace q511 := eq_true q511
        go_wp2_with (first | ((with_reducible refine gate_dst (N := 4) rfl ?_); (try (refine gate_guard (by rfl) ?_; dsimp only)); refine box_event ?hg (N := 4) ?hd (cs := #[.int .i64 0, .string (⟨#[]⟩ : ByteArray), .bool false, .slice none 0 0]) (t := 35) ?hr ?_; (case hd => rfl); (case hg => rfl); (case hr => first | (go_simp; done) | (go_simp; rfl)); intro gb512 hg w44 hbox hb; have BK512 := m_ (hbox); have GW512 := m_ ((by rw [hg]; exact (l6_ (by repeat (with_reducible first | exact HB.out | apply l1_ | apply l2_ | apply l3_))) : w.heap.size ≤ gb512)); have GE512 := m_ ((by rw [hg]; exact (l6_ (by repeat (with_reducible first | exact HB.out | apply l1_ | apply l2_ | apply l3_))) : w.heap.size ≤ gb512)); replace HB := m_ (l5_ (by repeat (with_reducible first | exact HB.out | apply l1_ | apply l2_ | apply l3_)) hb); clear hb hbox hg; have hcz45_0 : w44.cell? ⟨gb512, 0, none⟩ = some (.int .i64 0) := (b5_ BK512.out 0).trans rfl; have hcz45_1 : w44.cell? ⟨gb512, 1, none⟩ = some (.string (⟨#[]⟩ : ByteArray)) := (b5_ BK512.out 1).trans rfl; have hcz45_2 : w44.cell? ⟨gb512, 2, none⟩ = some (.bool false) := (b5_ BK512.out 2).trans rfl; have hcz45_3 : w44.cell? ⟨gb512, 3, none⟩ = some (.slice none 0 0) := (b5_ BK512.out 3).trans rfl; have hfz45_0 := f1_ BK512.out 0; have hfz45_1 := f1_ BK512.out 1; have hfz45_2 := f1_ BK512.out 2; have hfz45_3 := f1_ BK512.out 3) | (go_at_call 42; (with_reducible refine (jobshellref04_ascending.calls k1 _ _ ((rd_T35 l0 x3_1).f3) true _ ?side1 ?side2 A42.out).mono ?_); (case side1 => exact Kd.C_below HR511_3.out (by repeat (with_reducible first | exact HB.out | apply l1_ | apply l2_ | apply l3_ | refine l4_ ?_ GE512.out))); (case side2 => exact HC511_3.out); rintro e w' ⟨rfl, ⟨nd, rfl⟩⟩))
        go_roundg k1
        case measure => have := HK1.out; omega
        case rel => exact ⟨(wrap64 (x3_1 + 1)), (by first | rfl | (simp; done) | (simp [*]; done)), H', ⟨by have := HK1.out; omega⟩, ⟨by repeat (with_reducible first | exact HB.out | apply l1_ | apply l2_ | apply l3_ | refine l4_ ?_ GE512.out)⟩⟩
       ·
        replace c43 := Bool.eq_false_iff.mpr c43
        subst c43
        rw [if_neg (show ¬ (false = true) by decide)] at H
        obtain rfl := Option.some.inj H
        have p511 : 0 ≤ (x3_1 : Int) := o1_ (by with_reducible assumption)
        have q511 : x3_1 < (l0.length : Int) := o1_ (by with_reducible assumption)
        obtain ⟨ad511, A511_3, c511_3, e511, hx511_0, hx511_1, hx511_2, hx511_3, hl511_3, hi511_3⟩ := at_T35 HR0.out x3_1 p511 q511
        cases e511
        replace hx511_0 := (HB.out.cell (c1_ w _ hx511_0)).trans hx511_0
        replace hx511_1 := (HB.out.cell (c1_ w _ hx511_1)).trans hx511_1
        replace hx511_2 := (HB.out.cell (c1_ w _ hx511_2)).trans hx511_2
        replace hx511_3 := (HB.out.cell (c1_ w _ hx511_3)).trans hx511_3
        have HR511_3 := m_ hi511_3
        have HC511_3 := m_ hl511_3
        clear hi511_3 hl511_3
        replace p511 := eq_true p511
        replace q511 := eq_true q511
        go_wp2_with (first | ((with_reducible refine gate_dst (N := 4) rfl ?_); (try (refine gate_guard (by rfl) ?_; dsimp only)); refine box_event ?hg (N := 4) ?hd (cs := #[.int .i64 0, .string (⟨#[]⟩ : ByteArray), .bool false, .slice none 0 0]) (t := 35) ?hr ?_; (case hd => rfl); (case hg => rfl); (case hr => first | (go_simp; done) | (go_simp; rfl)); intro gb512 hg w46 hbox hb; have BK512 := m_ (hbox); have GW512 := m_ ((by rw [hg]; exact (l6_ (by repeat (with_reducible first | exact HB.out | apply l1_ | apply l2_ | apply l3_))) : w.heap.size ≤ gb512)); have GE512 := m_ ((by rw [hg]; exact (l6_ (by repeat (with_reducible first | exact HB.out | apply l1_ | apply l2_ | apply l3_))) : w.heap.size ≤ gb512)); replace HB := m_ (l5_ (by repeat (with_reducible first | exact HB.out | apply l1_ | apply l2_ | apply l3_)) hb); clear hb hbox hg; have hcz47_0 : w46.cell? ⟨gb512, 0, none⟩ = some (.int .i64 0) := (b5_ BK512.out 0).trans rfl; have hcz47_1 : w46.cell? ⟨gb512, 1, none⟩ = some (.string (⟨#[]⟩ : ByteArray)) := (b5_ BK512.out 1).trans rfl; have hcz47_2 : w46.cell? ⟨gb512, 2, none⟩ = some (.bool false) := (b5_ BK512.out 2).trans rfl; have hcz47_3 : w46.cell? ⟨gb512, 3, none⟩ = some (.slice none 0 0) := (b5_ BK512.out 3).trans rfl; have hfz47_0 := f1_ BK512.out 0; have hfz47_1 := f1_ BK512.out 1; have hfz47_2 := f1_ BK512.out 2; have hfz47_3 := f1_ BK512.out 3) | (go_at_call 42; (with_reducible refine (jobshellref04_ascending.calls k1 _ _ ((rd_T35 l0 x3_1).f3) false _ ?side1 ?side2 A42.out).mono ?_); (case side1 => exact Kd.C_below HR511_3.out (by repeat (with_reducible first | exact HB.out | apply l1_ | apply l2_ | apply l3_ | refine l4_ ?_ GE512.out))); (case side2 => exact HC511_3.out); rintro e w' ⟨rfl, ⟨nd, rfl⟩⟩))
        go_ret
        exact ⟨by first | rfl | (simp [errW_none, errW_some] <;> rfl) | (simp [*, errW_none, errW_some] <;> rfl), by repeat (with_reducible first | exact HB.out | apply l1_ | apply l2_ | apply l3_ | refine l4_ ?_ GE512.out)⟩
      rw [if_neg c41] at H
      have c41b0 : (((rd_T35 l0 x3_1).f0) == 4) = false := beq_eq_false_iff_ne.mpr c41
      have c41b1 : (((rd_T35 l0 x3_1).f0) != 4) = true := bne_iff_ne.mpr c41
      obtain ⟨bq48, hbq48⟩ : ∃ b_ : Bool, b_ = ((rd_T35 l0 x3_1).f2) := ⟨_, rfl⟩
      replace H : (if bq48 = true then (some false) else (if (((rd_T35 l0 x3_1).f3).length : Int) > 0 then (some false) else ((jobshellref04_ascending.f k1 ((rd_T35 l0 x3_1).f3)).bind fun t516 => (if t516 = true then (jobshellref04_Valid.l0 k1 l0 (wrap64 (x3_1 + 1))) else (some false))))) = some r := by rw [← hbq48] at H; exact H
      have Nbq48 := m_ hbq48
      clear hbq48
      by_cases c49 : bq48 = true
      ·
       subst c49
       rw [if_pos rfl] at H
       obtain rfl := Option.some.inj H
       have p511 : 0 ≤ (x3_1 : Int) := o1_ (by with_reducible assumption)
       have q511 : x3_1 < (l0.length : Int) := o1_ (by with_reducible assumption)
       obtain ⟨ad511, A511_3, c511_3, e511, hx511_0, hx511_1, hx511_2, hx511_3, hl511_3, hi511_3⟩ := at_T35 HR0.out x3_1 p511 q511
       (try rw [← Nbq48.out] at hx511_2)
       cases e511
       replace hx511_0 := (HB.out.cell (c1_ w _ hx511_0)).trans hx511_0
       replace hx511_1 := (HB.out.cell (c1_ w _ hx511_1)).trans hx511_1
       replace hx511_2 := (HB.out.cell (c1_ w _ hx511_2)).trans hx511_2
       replace hx511_3 := (HB.out.cell (c1_ w _ hx511_3)).trans hx511_3
       have HR511_3 := m_ hi511_3
       have HC511_3 := m_ hl511_3
       clear hi511_3 hl511_3
       replace p511 := eq_true p511
       replace q511 := eq_true q511
       go_wp2_with (first | ((with_reducible refine gate_dst (N := 4) rfl ?_); (try (refine gate_guard (by rfl) ?_; dsimp only)); refine box_event ?hg (N := 4) ?hd (cs := #[.int .i64 0, .string (⟨#[]⟩ : ByteArray), .bool false, .slice none 0 0]) (t := 35) ?hr ?_; (case hd => rfl); (case hg => rfl); (case hr => first | (go_simp; done) | (go_simp; rfl)); intro gb512 hg w50 hbox hb; have BK512 := m_ (hbox); have GW512 := m_ ((by rw [hg]; exact (l6_ (by repeat (with_reducible first | exact HB.out | apply l1_ | apply l2_ | apply l3_))) : w.heap.size ≤ gb512)); have GE512 := m_ ((by rw [hg]; exact (l6_ (by repeat (with_reducible first | exact HB.out | apply l1_ | apply l2_ | apply l3_))) : w.heap.size ≤ gb512)); replace HB := m_ (l5_ (by repeat (with_reducible first | exact HB.out | apply l1_ | apply l2_ | apply l3_)) hb); clear hb hbox hg; have hcz51_0 : w50.cell? ⟨gb512, 0, none⟩ = some (.int .i64 0) := (b5_ BK512.out 0).trans rfl; have hcz51_1 : w50.cell? ⟨gb512, 1, none⟩ = some (.string (⟨#[]⟩ : ByteArray)) := (b5_ BK512.out 1).trans rfl; have hcz51_2 : w50.cell? ⟨gb512, 2, none⟩ = some (.bool false) := (b5_ BK512.out 2).trans rfl; have hcz51_3 : w50.cell? ⟨gb512, 3, none⟩ = some (.slice none 0 0) := (b5_ BK512.out 3).trans rfl; have hfz51_0 := f1_ BK512.out 0; have hfz51_1 := f1_ BK512.out 1; have hfz51_2 := f1_ BK512.out 2; have hfz51_3 := f1_ BK512.out 3))
       go_ret
       exact ⟨by first | rfl | (simp [errW_none, errW_some] <;> rfl) | (simp [*, errW_none, errW_some] <;> rfl), by repeat (with_reducible first | exact HB.out | apply l1_ | apply l2_ | apply l3_ | refine l4_ ?_ GE512.out)⟩
      ·
       replace c49 := Bool.eq_false_iff.mpr c49
       subst c49
       rw [if_neg (show ¬ (false = true) by decide)] at H
       by_cases c52 : (((rd_T35 l0 x3_1).f3).length : Int) > 0
       ·
        rw [if_pos c52] at H
        have c52b0 : decide (0 < (((rd_T35 l0 x3_1).f3).length : Int)) = true := decide_eq_true c52
        have c52b1 : decide (0 < ((rd_T35 l0 x3_1).f3).length) = true := decide_eq_true (by omega)
        clear c52
        obtain rfl := Option.some.inj H
        have p511 : 0 ≤ (x3_1 : Int) := o1_ (by with_reducible assumption)
        have q511 : x3_1 < (l0.length : Int) := o1_ (by with_reducible assumption)
        obtain ⟨ad511, A511_3, c511_3, e511, hx511_0, hx511_1, hx511_2, hx511_3, hl511_3, hi511_3⟩ := at_T35 HR0.out x3_1 p511 q511
        (try rw [← Nbq48.out] at hx511_2)
        cases e511
        replace hx511_0 := (HB.out.cell (c1_ w _ hx511_0)).trans hx511_0
        replace hx511_1 := (HB.out.cell (c1_ w _ hx511_1)).trans hx511_1
        replace hx511_2 := (HB.out.cell (c1_ w _ hx511_2)).trans hx511_2
        replace hx511_3 := (HB.out.cell (c1_ w _ hx511_3)).trans hx511_3
        have HR511_3 := m_ hi511_3
        have HC511_3 := m_ hl511_3
        clear hi511_3 hl511_3
        replace p511 := eq_true p511
        replace q511 := eq_true q511
        go_wp2_with (first | ((with_reducible refine gate_dst (N := 4) rfl ?_); (try (refine gate_guard (by rfl) ?_; dsimp only)); refine box_event ?hg (N := 4) ?hd (cs := #[.int .i64 0, .string (⟨#[]⟩ : ByteArray), .bool false, .slice none 0 0]) (t := 35) ?hr ?_; (case hd => rfl); (case hg => rfl); (case hr => first | (go_simp; done) | (go_simp; rfl)); intro gb512 hg w53 hbox hb; have BK512 := m_ (hbox); have GW512 := m_ ((by rw [hg]; exact (l6_ (by repeat (with_reducible first | exact HB.out | apply l1_ | apply l2_ | apply l3_))) : w.heap.size ≤ gb512)); have GE512 := m_ ((by rw [hg]; exact (l6_ (by repeat (with_reducible first | exact HB.out | apply l1_ | apply l2_ | apply l3_))) : w.heap.size ≤ gb512)); replace HB := m_ (l5_ (by repeat (with_reducible first | exact HB.out | apply l1_ | apply l2_ | apply l3_)) hb); clear hb hbox hg; have hcz54_0 : w53.cell? ⟨gb512, 0, none⟩ = some (.int .i64 0) := (b5_ BK512.out 0).trans rfl; have hcz54_1 : w53.cell? ⟨gb512, 1, none⟩ = some (.string (⟨#[]⟩ : ByteArray)) := (b5_ BK512.out 1).trans rfl; have hcz54_2 : w53.cell? ⟨gb512, 2, none⟩ = some (.bool false) := (b5_ BK512.out 2).trans rfl; have hcz54_3 : w53.cell? ⟨gb512, 3, none⟩ = some (.slice none 0 0) := (b5_ BK512.out 3).trans rfl; have hfz54_0 := f1_ BK512.out 0; have hfz54_1 := f1_ BK512.out 1; have hfz54_2 := f1_ BK512.out 2; have hfz54_3 := f1_ BK512.out 3))
        go_ret
        exact ⟨by first | rfl | (simp [errW_none, errW_some] <;> rfl) | (simp [*, errW_none, errW_some] <;> rfl), by repeat (with_reducible first | exact HB.out | apply l1_ | apply l2_ | apply l3_ | refine l4_ ?_ GE512.out)⟩
       rw [if_neg c52] at H
       have c52b0 : decide (0 < (((rd_T35 l0 x3_1).f3).length : Int)) = false := decide_eq_false c52
       have c52b1 : decide (0 < ((rd_T35 l0 x3_1).f3).length) = false := decide_eq_false (by omega)
       clear c52
       replace H := Option.bind_eq_some_iff.mp H
       obtain ⟨t516, A550, H⟩ := H
       try dsimp -simprocs only at H
       have A55 := m_ A550
       clear A550
       by_cases c56 : t516 = true
       ·
        subst c56
        rw [if_pos rfl] at H
        have H' := m_ H
        clear H
        have p511 : 0 ≤ (x3_1 : Int) := o1_ (by with_reducible assumption)
        have q511 : x3_1 < (l0.length : Int) := o1_ (by with_reducible assumption)
        obtain ⟨ad511, A511_3, c511_3, e511, hx511_0, hx511_1, hx511_2, hx511_3, hl511_3, hi511_3⟩ := at_T35 HR0.out x3_1 p511 q511
        (try rw [← Nbq48.out] at hx511_2)
        cases e511
        replace hx511_0 := (HB.out.cell (c1_ w _ hx511_0)).trans hx511_0
        replace hx511_1 := (HB.out.cell (c1_ w _ hx511_1)).trans hx511_1
        replace hx511_2 := (HB.out.cell (c1_ w _ hx511_2)).trans hx511_2
        replace hx511_3 := (HB.out.cell (c1_ w _ hx511_3)).trans hx511_3
        have HR511_3 := m_ hi511_3
        have HC511_3 := m_ hl511_3
        clear hi511_3 hl511_3
        replace p511 := eq_true p511
        replace q511 := eq_true q511
        go_wp2_with (first | ((with_reducible refine gate_dst (N := 4) rfl ?_); (try (refine gate_guard (by rfl) ?_; dsimp only)); refine box_event ?hg (N := 4) ?hd (cs := #[.int .i64 0, .string (⟨#[]⟩ : ByteArray), .bool false, .slice none 0 0]) (t := 35) ?hr ?_; (case hd => rfl); (case hg => rfl); (case hr => first | (go_simp; done) | (go_simp; rfl)); intro gb512 hg w57 hbox hb; have BK512 := m_ (hbox); have GW512 := m_ ((by rw [hg]; exact (l6_ (by repeat (with_reducible first | exact HB.out | apply l1_ | apply l2_ | apply l3_))) : w.heap.size ≤ gb512)); have GE512 := m_ ((by rw [hg]; exact (l6_ (by repeat (with_reducible first | exact HB.out | apply l1_ | apply l2_ | apply l3_))) : w.heap.size ≤ gb512)); replace HB := m_ (l5_ (by repeat (with_reducible first | exact HB.out | apply l1_ | apply l2_ | apply l3_)) hb); clear hb hbox hg; have hcz58_0 : w57.cell? ⟨gb512, 0, none⟩ = some (.int .i64 0) := (b5_ BK512.out 0).trans rfl; have hcz58_1 : w57.cell? ⟨gb512, 1, none⟩ = some (.string (⟨#[]⟩ : ByteArray)) := (b5_ BK512.out 1).trans rfl; have hcz58_2 : w57.cell? ⟨gb512, 2, none⟩ = some (.bool false) := (b5_ BK512.out 2).trans rfl; have hcz58_3 : w57.cell? ⟨gb512, 3, none⟩ = some (.slice none 0 0) := (b5_ BK512.out 3).trans rfl; have hfz58_0 := f1_ BK512.out 0; have hfz58_1 := f1_ BK512.out 1; have hfz58_2 := f1_ BK512.out 2; have hfz58_3 := f1_ BK512.out 3) | (go_at_call 42; (with_reducible refine (jobshellref04_ascending.calls k1 _ _ ((rd_T35 l0 x3_1).f3) true _ ?side1 ?side2 A55.out).mono ?_); (case side1 => exact Kd.C_below HR511_3.out (by repeat (with_reducible first | exact HB.out | apply l1_ | apply l2_ | apply l3_ | refine l4_ ?_ GE512.out))); (case side2 => exact HC511_3.out); rintro e w' ⟨rfl, ⟨nd, rfl⟩⟩))
        go_roundg k1
        case measure => have := HK1.out; omega
        case rel => exact ⟨(wrap64 (x3_1 + 1)), (by first | rfl | (simp; done) | (simp [*]; done)), H', ⟨by have := HK1.out; omega⟩, ⟨by repeat (with_reducible first | exact HB.out | apply l1_ | apply l2_ | apply l3_ | refine l4_ ?_ GE512.out)⟩⟩
       ·
        replace c56 := Bool.eq_false_iff.mpr c56
        subst c56
        rw [if_neg (show ¬ (false = true) by decide)] at H
        obtain rfl := Option.some.inj H
        have p511 : 0 ≤ (x3_1 : Int) := o1_ (by with_reducible assumption)
        have q511 : x3_1 < (l0.length : Int) := o1_ (by with_reducible assumption)
        obtain ⟨ad511, A511_3, c511_3, e511, hx511_0, hx511_1, hx511_2, hx511_3, hl511_3, hi511_3⟩ := at_T35 HR0.out x3_1 p511 q511
        (try rw [← Nbq48.out] at hx511_2)
        cases e511
        replace hx511_0 := (HB.out.cell (c1_ w _ hx511_0)).trans hx511_0
        replace hx511_1 := (HB.out.cell (c1_ w _ hx511_1)).trans hx511_1
        replace hx511_2 := (HB.out.cell (c1_ w _ hx511_2)).trans hx511_2
        replace hx511_3 := (HB.out.cell (c1_ w _ hx511_3)).trans hx511_3
        have HR511_3 := m_ hi511_3
        have HC511_3 := m_ hl511_3
        clear hi511_3 hl511_3
        replace p511 := eq_true p511
        replace q511 := eq_true q511
        go_wp2_with (first | ((with_reducible refine gate_dst (N := 4) rfl ?_); (try (refine gate_guard (by rfl) ?_; dsimp only)); refine box_event ?hg (N := 4) ?hd (cs := #[.int .i64 0, .string (⟨#[]⟩ : ByteArray), .bool false, .slice none 0 0]) (t := 35) ?hr ?_; (case hd => rfl); (case hg => rfl); (case hr => first | (go_simp; done) | (go_simp; rfl)); intro gb512 hg w59 hbox hb; have BK512 := m_ (hbox); have GW512 := m_ ((by rw [hg]; exact (l6_ (by repeat (with_reducible first | exact HB.out | apply l1_ | apply l2_ | apply l3_))) : w.heap.size ≤ gb512)); have GE512 := m_ ((by rw [hg]; exact (l6_ (by repeat (with_reducible first | exact HB.out | apply l1_ | apply l2_ | apply l3_))) : w.heap.size ≤ gb512)); replace HB := m_ (l5_ (by repeat (with_reducible first | exact HB.out | apply l1_ | apply l2_ | apply l3_)) hb); clear hb hbox hg; have hcz60_0 : w59.cell? ⟨gb512, 0, none⟩ = some (.int .i64 0) := (b5_ BK512.out 0).trans rfl; have hcz60_1 : w59.cell? ⟨gb512, 1, none⟩ = some (.string (⟨#[]⟩ : ByteArray)) := (b5_ BK512.out 1).trans rfl; have hcz60_2 : w59.cell? ⟨gb512, 2, none⟩ = some (.bool false) := (b5_ BK512.out 2).trans rfl; have hcz60_3 : w59.cell? ⟨gb512, 3, none⟩ = some (.slice none 0 0) := (b5_ BK512.out 3).trans rfl; have hfz60_0 := f1_ BK512.out 0; have hfz60_1 := f1_ BK512.out 1; have hfz60_2 := f1_ BK512.out 2; have hfz60_3 := f1_ BK512.out 3) | (go_at_call 42; (with_reducible refine (jobshellref04_ascending.calls k1 _ _ ((rd_T35 l0 x3_1).f3) false _ ?side1 ?side2 A55.out).mono ?_); (case side1 => exact Kd.C_below HR511_3.out (by repeat (with_reducible first | exact HB.out | apply l1_ | apply l2_ | apply l3_ | refine l4_ ?_ GE512.out))); (case side2 => exact HC511_3.out); rintro e w' ⟨rfl, ⟨nd, rfl⟩⟩))
        go_ret
        exact ⟨by first | rfl | (simp [errW_none, errW_some] <;> rfl) | (simp [*, errW_none, errW_some] <;> rfl), by repeat (with_reducible first | exact HB.out | apply l1_ | apply l2_ | apply l3_ | refine l4_ ?_ GE512.out)⟩
     rw [if_neg c40] at H
     have c40b0 : ((((rd_T35 l0 x3_1).f1).size : Int) == 0) = false := beq_eq_false_iff_ne.mpr c40
     have c40b1 : ((((rd_T35 l0 x3_1).f1).size : Int) != 0) = true := bne_iff_ne.mpr c40
     obtain rfl := Option.some.inj H
     have p511 : 0 ≤ (x3_1 : Int) := o1_ (by with_reducible assumption)
     have q511 : x3_1 < (l0.length : Int) := o1_ (by with_reducible assumption)
     obtain ⟨ad511, A511_3, c511_3, e511, hx511_0, hx511_1, hx511_2, hx511_3, hl511_3, hi511_3⟩ := at_T35 HR0.out x3_1 p511 q511
     cases e511
     replace hx511_0 := (HB.out.cell (c1_ w _ hx511_0)).trans hx511_0
     replace hx511_1 := (HB.out.cell (c1_ w _ hx511_1)).trans hx511_1
     replace hx511_2 := (HB.out.cell (c1_ w _ hx511_2)).trans hx511_2
     replace hx511_3 := (HB.out.cell (c1_ w _ hx511_3)).trans hx511_3
     have HR511_3 := m_ hi511_3
     have HC511_3 := m_ hl511_3
     clear hi511_3 hl511_3
     replace p511 := eq_true p511
     replace q511 := eq_true q511
     go_wp2_with (first | ((with_reducible refine gate_dst (N := 4) rfl ?_); (try (refine gate_guard (by rfl) ?_; dsimp only)); refine box_event ?hg (N := 4) ?hd (cs := #[.int .i64 0, .string (⟨#[]⟩ : ByteArray), .bool false, .slice none 0 0]) (t := 35) ?hr ?_; (case hd => rfl); (case hg => rfl); (case hr => first | (go_simp; done) | (go_simp; rfl)); intro gb512 hg w61 hbox hb; have BK512 := m_ (hbox); have GW512 := m_ ((by rw [hg]; exact (l6_ (by repeat (with_reducible first | exact HB.out | apply l1_ | apply l2_ | apply l3_))) : w.heap.size ≤ gb512)); have GE512 := m_ ((by rw [hg]; exact (l6_ (by repeat (with_reducible first | exact HB.out | apply l1_ | apply l2_ | apply l3_))) : w.heap.size ≤ gb512)); replace HB := m_ (l5_ (by repeat (with_reducible first | exact HB.out | apply l1_ | apply l2_ | apply l3_)) hb); clear hb hbox hg; have hcz62_0 : w61.cell? ⟨gb512, 0, none⟩ = some (.int .i64 0) := (b5_ BK512.out 0).trans rfl; have hcz62_1 : w61.cell? ⟨gb512, 1, none⟩ = some (.string (⟨#[]⟩ : ByteArray)) := (b5_ BK512.out 1).trans rfl; have hcz62_2 : w61.cell? ⟨gb512, 2, none⟩ = some (.bool false) := (b5_ BK512.out 2).trans rfl; have hcz62_3 : w61.cell? ⟨gb512, 3, none⟩ = some (.slice none 0 0) := (b5_ BK512.out 3).trans rfl; have hfz62_0 := f1_ BK512.out 0; have hfz62_1 := f1_ BK512.out 1; have hfz62_2 := f1_ BK512.out 2; have hfz62_3 := f1_ BK512.out 3))
     go_ret
     exact ⟨by first | rfl | (simp [errW_none, errW_some] <;> rfl) | (simp [*, errW_none, errW_some] <;> rfl), by repeat (with_reducible first | exact HB.out | apply l1_ | apply l2_ | apply l3_ | refine l4_ ?_ GE512.out)⟩
    rw [if_neg c3] at H
    exact absurd H (by simp)
   rw [if_neg c2] at H
   have c2b0 : decide (x3_1 < (l0.length : Int)) = false := decide_eq_false c2
   clear c2
   obtain rfl := Option.some.inj H
   go_wp2
   go_ret
   exact ⟨by first | rfl | (simp [errW_none, errW_some] <;> rfl) | (simp [*, errW_none, errW_some] <;> rfl), by repeat (with_reducible first | exact HB.out | apply l1_ | apply l2_ | apply l3_)⟩
end Go.Proofs.Ytbekhjcnmifnnaa.Q
