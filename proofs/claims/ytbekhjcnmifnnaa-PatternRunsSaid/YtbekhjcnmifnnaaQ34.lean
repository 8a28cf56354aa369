import Derived.Test.YtbekhjcnmifnnaaQ0
import Derived.Test.YtbekhjcnmifnnaaQ31
import Derived.Test.YtbekhjcnmifnnaaQ32
import Derived.Test.YtbekhjcnmifnnaaQ33
set_option linter.unusedVariables false
set_option linter.unusedSimpArgs false
namespace Go.Proofs.Ytbekhjcnmifnnaa.Q
open Go.RowKit Go.Proofs.YtbekhjcnmifnnaaW.PrintWords Go.Proofs.YtbekhjcnmifnnaaW.PrintLast Go.Proofs.YtbekhjcnmifnnaaW.PrintMore
mutual
def jobshellref04_member.l0 : Nat → List (S65) → Int → List (S86) → Int → Option ((List (S58)) × Int)
 | 0, _, _, _, _ => none
 | k + 1, x0, x1, x6, x7 => if x7 < (x6.length : Int) then (if 0 ≤ x7 then (if 2 + ((rd_T86 x6 x7).f0).size ≤ 9223372036854775807 then (if ((⟨#[91, 58]⟩ : ByteArray) ++ ((rd_T86 x6 x7).f0)).size + 2 ≤ 9223372036854775807 then ((jobshellref04_says.f k x0 x1 (((⟨#[91, 58]⟩ : ByteArray) ++ ((rd_T86 x6 x7).f0)) ++ (⟨#[58, 93]⟩ : ByteArray))).bind fun t411 => (if t411 = true then (some ((rd_T86 x6 x7).f1, wrap64 (x1 + ((((⟨#[91, 58]⟩ : ByteArray) ++ ((rd_T86 x6 x7).f0)) ++ (⟨#[58, 93]⟩ : ByteArray)).size : Int)))) else (jobshellref04_member.l0 k x0 x1 x6 (wrap64 (x7 + 1))))) else (none)) else (none)) else (none)) else (if 0 ≤ x1 then (if x1 < (x0.length : Int) then ((jobshellref04_is.f x0 (wrap64 (x1 + 1)) 45).bind fun t414 => (if t414 = true then (if (wrap64 (x1 + 2)) < (x0.length : Int) then ((jobshellref04_is.f x0 (wrap64 (x1 + 2)) 93).bind fun t415 => (jobshellref04_member.j1 k x0 x1 ((rd_T65 x0 x1).f0) (!t415))) else (jobshellref04_member.j1 k x0 x1 ((rd_T65 x0 x1).f0) false)) else (jobshellref04_member.j1 k x0 x1 ((rd_T65 x0 x1).f0) false))) else (none)) else (none))
def jobshellref04_member.j1 : Nat → List (S65) → Int → Int → Bool → Option ((List (S58)) × Int)
 | 0, _, _, _, _ => none
 | k + 1, x0, x1, x9, x60 => if x60 = true then (if 0 ≤ (wrap64 (x1 + 2)) then (if (wrap64 (x1 + 2)) < (x0.length : Int) then (if x9 ≤ ((rd_T65 x0 (wrap64 (x1 + 2))).f0) then (some ((([(⟨x9, (rd_T65 x0 (wrap64 (x1 + 2))).f0⟩ : S58)] : List (S58))), wrap64 (x1 + 3))) else (some (([] : List (S58)), wrap64 (x1 + 3)))) else (none)) else (none)) else (some ((([(⟨x9, x9⟩ : S58)] : List (S58))), wrap64 (x1 + 1)))
end
def jobshellref04_member.f (k : Nat) (l0 : List (S65)) (a1 : Int) : Option ((List (S58)) × Int) := (jobshellref04_classes.f).bind fun t407 => (jobshellref04_member.l0 k l0 a1 t407 0)
set_option maxHeartbeats 8000000 in
set_option maxRecDepth 100000 in
theorem jobshellref04_member.calls (k : Nat) (A0 : Option Addr) (c0 : Nat) (l0 : List (S65)) (a1 : Int) (r1 : List (S58)) (r2 : Int) (w : World) (hr0 : Kd.C k65 w A0 l0.length l0) (hc0 : l0.length ≤ c0) (h : jobshellref04_member.f k l0 a1 = some (r1, r2)) :
 Calls Try.prog 50 #[.slice A0 l0.length c0, .int .i64 a1] w fun e w' => ∃ v0_ : Value, e = .returned (.tuple #[v0_, .int .i64 r2]) ∧ Kd.V k58 58 w' w.heap.size (fun k_ => (w.heap.size ≤ k_)) v0_ r1 ∧ Below w.heap.size w w' := by
 have hu58 := Try.underlying58
 have HR0 := m_ hr0
 have HC0 := m_ hc0
 clear hr0 hc0
 have HB := m_ (Below.refl w.heap.size w)
 have H : ((jobshellref04_classes.f).bind fun t407 => (jobshellref04_member.l0 k l0 a1 t407 0)) = some (r1, r2) := h
 clear h
 replace H := Option.bind_eq_some_iff.mp H
 obtain ⟨t407, A30, H⟩ := H
 try dsimp -simprocs only at H
 have A3 := m_ A30
 clear A30
 have H' := m_ H
 clear H
 go_enter Try.func50, Try.ntmps50
 go_wp2_with (first | ((with_reducible refine gate_callee (f := 53) rfl ?_); refine goesL_ (some 11) rfl rfl Try.func53 (by kernel_rfl) rfl #[] rfl (by (try simp only [List.map_toArray, List.map_cons, List.map_nil]); first | done | rfl | (simp only [List.length_drop, List.length_take]; rfl)) ?_; (with_reducible refine (jobshellref04_classes.calls  t407 _ A3.out).mono ?_); rintro e w4 ⟨v408, rfl, ho0, hb⟩; refine ⟨_, rfl, ?_⟩; have HO409 := m_ (Kd.N_lower (Kd.N_mono (ok' := fun k_ => (w.heap.size ≤ k_)) ho0 (fun k_ hk_ => (Nat.le_trans (l6_ (by repeat (with_reducible first | exact HB.out | apply l1_ | apply l2_ | apply l3_))) hk_))) (l6_ (by repeat (with_reducible first | exact HB.out | apply l1_ | apply l2_ | apply l3_)))); replace HB := m_ (l5_ (by repeat (with_reducible first | exact HB.out | apply l1_ | apply l2_ | apply l3_)) hb); (try clear hb); (try clear ho0)))
 go_loopg [7] k (fun kq v7 w' => ∃ (x7_1 : Int), v7 = .int .i64 x7_1 ∧ Aside0 (jobshellref04_member.l0 kq l0 a1 t407 x7_1 = some (r1, r2)) ∧ Aside0 (kq ≤ k) ∧ Aside0 (Kd.N k86 86 w' w.heap.size (fun k_ => (w.heap.size ≤ k_)) v408 t407) ∧ Aside0 (Below w.heap.size w w'))
 case atStart => exact ⟨(0), (by first | rfl | (simp; done) | (simp [*]; done)), H', ⟨Nat.le_refl _⟩, ⟨by (with_reducible repeat (first | apply Kd.N_alloc | apply Kd.N_drewN | apply Kd.N_drew)); exact HO409.out⟩, ⟨by repeat (with_reducible first | exact HB.out | apply l1_ | apply l2_ | apply l3_)⟩⟩
 case round =>
  clear H'
  (try clear p2)
  obtain ⟨x7_1, rfl, HA, HK1, HO_6, HB⟩ := hrel
  cases gk with
  | zero => exact absurd HA.out (by simp [jobshellref04_member.l0])
  | succ k1 =>
   have H := HA.out
   clear HA
   simp only [jobshellref04_member.l0] at H
   by_cases c5 : x7_1 < (t407.length : Int)
   ·
    rw [if_pos c5] at H
    have c5b0 : decide (x7_1 < (t407.length : Int)) = true := decide_eq_true c5
    clear c5
    by_cases c6 : 0 ≤ x7_1
    ·
     rw [if_pos c6] at H
     have c6b0 : decide (0 ≤ x7_1) = true := decide_eq_true c6
     clear c6
     by_cases c7 : 2 + ((rd_T86 t407 x7_1).f0).size ≤ 9223372036854775807
     ·
      rw [if_pos c7] at H
      have c7b0 := eq_true c7
      have c7b1 : decide (2 + ((rd_T86 t407 x7_1).f0).size ≤ 9223372036854775807) = true := decide_eq_true c7
      try have c7b2 : (9223372036854775807 < 2 + ((rd_T86 t407 x7_1).f0).size) = False := eq_false (Nat.not_lt.2 c7)
      by_cases c8 : ((⟨#[91, 58]⟩ : ByteArray) ++ ((rd_T86 t407 x7_1).f0)).size + 2 ≤ 9223372036854775807
      ·
       rw [if_pos c8] at H
       have c8b0 := eq_true c8
       have c8b1 : decide (((⟨#[91, 58]⟩ : ByteArray) ++ ((rd_T86 t407 x7_1).f0)).size + 2 ≤ 9223372036854775807) = true := decide_eq_true c8
       try have c8b2 : (9223372036854775807 < ((⟨#[91, 58]⟩ : ByteArray) ++ ((rd_T86 t407 x7_1).f0)).size + 2) = False := eq_false (Nat.not_lt.2 c8)
       have c8n : (9223372036854775807 < 2 + ((rd_T86 t407 x7_1).f0).size + 2) = False := eq_false (by have h_ := c8; rw [ByteArray.size_append] at h_; exact Nat.not_lt.2 h_)
       replace H := Option.bind_eq_some_iff.mp H
       obtain ⟨t411, A90, H⟩ := H
       try dsimp -simprocs only at H
       have A9 := m_ A90
       clear A90
       by_cases c10 : t411 = true
       ·
        subst c10
        rw [if_pos rfl] at H
        simp only [Option.some.injEq, Prod.mk.injEq] at H
        obtain ⟨rfl, rfl⟩ := H
        obtain ⟨Ao11, co11, eo11⟩ := Kd.N_slice HO_6.out
        subst eo11
        have p410 : 0 ≤ (x7_1 : Int) := o1_ (by with_reducible assumption)
        have q410 : x7_1 < (t407.length : Int) := o1_ (by with_reducible assumption)
        obtain ⟨ad410, A410_1, c410_1, e410, hx410_0, hx410_1, hl410_1, hi410_1⟩ := at_T86 (Kd.N_reads' HO_6.out).2.2 x7_1 p410 q410
        cases e410
        obtain ⟨ce410, hce410, hMe410, hcc410⟩ := Kd.N_get HO_6.out z86 x7_1 p410 (by first | exact q410 | exact o1_ (by with_reducible assumption) | (have e_ := (Kd.N_reads' HO_6.out).1; omega))
        obtain ⟨ua410_1, uc410_1, rfl, ul410_1, ge410_1⟩ := k86_openF hMe410
        have hv410_1 := hcc410 1 _ rfl
        rw [add_field _ _ 1 (by omega)] at hv410_1
        replace hv410_1 := Option.some.inj (hv410_1.symm.trans hx410_1)
        injection hv410_1 with hva_ hvn_ hvc_
        rw [hva_] at ge410_1
        rw [hvc_] at ul410_1
        have HL410_1 := m_ (show Kd.V k58 58 _ w.heap.size _ _ ((rd_T86 t407 x7_1).f1) from Kd.V_mk ul410_1 ge410_1)
        clear hva_ hvn_ hvc_ ge410_1 ul410_1
        clear hcc410 hce410
        have HR410_1 := m_ hi410_1
        have HC410_1 := m_ hl410_1
        clear hi410_1 hl410_1
        replace p410 := eq_true p410
        replace q410 := eq_true q410
        go_wp2_with (first | ((with_reducible refine gate_callee (f := 54) rfl ?_); refine goesL_ (some 28) rfl rfl Try.func54 (by kernel_rfl) rfl #[.slice A0 l0.length c0, .int .i64 a1, .string (((⟨#[91, 58]⟩ : ByteArray) ++ ((rd_T86 t407 x7_1).f0)) ++ (⟨#[58, 93]⟩ : ByteArray))] rfl (by (try simp only [List.map_toArray, List.map_cons, List.map_nil]); first | done | rfl | (simp only [List.length_drop, List.length_take]; rfl)) ?_; (with_reducible refine (jobshellref04_says.calls k1 _ _ l0 a1 (((⟨#[91, 58]⟩ : ByteArray) ++ ((rd_T86 t407 x7_1).f0)) ++ (⟨#[58, 93]⟩ : ByteArray)) true _ ?side1 ?side2 A9.out).mono ?_); (case side1 => repeat (first | exact (Kd.C_below HR0.out HB.out) | (with_reducible refine Kd.C_alloc ?_ _) | (with_reducible refine Kd.C_drewN ?_ _) | (with_reducible refine Kd.C_drew ?_))); (case side2 => exact HC0.out); rintro e w' ⟨rfl, ⟨nd, rfl⟩⟩; refine ⟨_, rfl, ?_⟩; have p412 : 0 ≤ (x7_1 : Int) := o1_ (by with_reducible assumption); have q412 : x7_1 < (t407.length : Int) := o1_ (by with_reducible assumption); obtain ⟨ad412, A412_1, c412_1, e412, hx412_0, hx412_1, hl412_1, hi412_1⟩ := at_T86 (Kd.N_reads' HO_6.out).2.2 x7_1 p412 q412; obtain rfl : ad410 = ad412 := (by injection e412); obtain ⟨ce412, hce412, hMe412, hcc412⟩ := Kd.N_get HO_6.out z86 x7_1 p412 (by first | exact q412 | exact o1_ (by with_reducible assumption) | (have e_ := (Kd.N_reads' HO_6.out).1; omega)); obtain ⟨ua412_1, uc412_1, rfl, ul412_1, ge412_1⟩ := k86_openF hMe412; have hv412_1 := hcc412 1 _ rfl; rw [add_field _ _ 1 (by omega)] at hv412_1; replace hv412_1 := Option.some.inj (hv412_1.symm.trans hx412_1); injection hv412_1 with hva_ hvn_ hvc_; rw [hva_] at ge412_1; rw [hvc_] at ul412_1; have HL412_1 := m_ (show Kd.V k58 58 _ w.heap.size _ _ ((rd_T86 t407 x7_1).f1) from Kd.V_mk ul412_1 ge412_1); clear hva_ hvn_ hvc_ ge412_1 ul412_1; clear hcc412 hce412; have HR412_1 := m_ hi412_1; have HC412_1 := m_ hl412_1; clear hi412_1 hl412_1; replace p412 := eq_true p412; replace q412 := eq_true q412; have ea_ := Option.some.inj (hx410_1.symm.trans hx412_1); injection ea_ with ea_ en_ ec_; subst ea_; subst ec_; clear en_))
        go_ret2
        exact ⟨_, by first | rfl | (simp [errW_none, errW_some] <;> rfl) | (simp [*, errW_none, errW_some] <;> rfl), by (with_reducible repeat (first | apply Kd.V_alloc | apply Kd.V_drewN | apply Kd.V_drew)); exact Kd.V_mono HL412_1.out (fun _ hk => hk.1), by repeat (with_reducible first | exact HB.out | apply l1_ | apply l2_ | apply l3_)⟩
       ·
        replace c10 := Bool.eq_false_iff.mpr c10
        subst c10
        rw [if_neg (show ¬ (false = true) by decide)] at H
        have H' := m_ H
        clear H
        obtain ⟨Ao12, co12, eo12⟩ := Kd.N_slice HO_6.out
        subst eo12
        have p410 : 0 ≤ (x7_1 : Int) := o1_ (by with_reducible assumption)
        have q410 : x7_1 < (t407.length : Int) := o1_ (by with_reducible assumption)
        obtain ⟨ad410, A410_1, c410_1, e410, hx410_0, hx410_1, hl410_1, hi410_1⟩ := at_T86 (Kd.N_reads' HO_6.out).2.2 x7_1 p410 q410
        cases e410
        obtain ⟨ce410, hce410, hMe410, hcc410⟩ := Kd.N_get HO_6.out z86 x7_1 p410 (by first | exact q410 | exact o1_ (by with_reducible assumption) | (have e_ := (Kd.N_reads' HO_6.out).1; omega))
        obtain ⟨ua410_1, uc410_1, rfl, ul410_1, ge410_1⟩ := k86_openF hMe410
        have hv410_1 := hcc410 1 _ rfl
        rw [add_field _ _ 1 (by omega)] at hv410_1
        replace hv410_1 := Option.some.inj (hv410_1.symm.trans hx410_1)
        injection hv410_1 with hva_ hvn_ hvc_
        rw [hva_] at ge410_1
        rw [hvc_] at ul410_1
        have HL410_1 := m_ (show Kd.V k58 58 _ w.heap.size _ _ ((rd_T86 t407 x7_1).f1) from Kd.V_mk ul410_1 ge410_1)
        clear hva_ hvn_ hvc_ ge410_1 ul410_1
        clear hcc410 hce410
        have HR410_1 := m_ hi410_1
        have HC410_1 := m_ hl410_1
        clear hi410_1 hl410_1
        replace p410 := eq_true p410
        replace q410 := eq_true q410
        go_wp2_with (first | ((with_reducible refine gate_callee (f := 54) rfl ?_); refine goesL_ (some 28) rfl rfl Try.func54 (by kernel_rfl) rfl #[.slice A0 l0.length c0, .int .i64 a1, .string (((⟨#[91, 58]⟩ : ByteArray) ++ ((rd_T86 t407 x7_1).f0)) ++ (⟨#[58, 93]⟩ : ByteArray))] rfl (by (try simp only [List.map_toArray, List.map_cons, List.map_nil]); first | done | rfl | (simp only [List.length_drop, List.length_take]; rfl)) ?_; (with_reducible refine (jobshellref04_says.calls k1 _ _ l0 a1 (((⟨#[91, 58]⟩ : ByteArray) ++ ((rd_T86 t407 x7_1).f0)) ++ (⟨#[58, 93]⟩ : ByteArray)) false _ ?side1 ?side2 A9.out).mono ?_); (case side1 => repeat (first | exact (Kd.C_below HR0.out HB.out) | (with_reducible refine Kd.C_alloc ?_ _) | (with_reducible refine Kd.C_drewN ?_ _) | (with_reducible refine Kd.C_drew ?_))); (case side2 => exact HC0.out); rintro e w' ⟨rfl, ⟨nd, rfl⟩⟩; refine ⟨_, rfl, ?_⟩))
        go_roundg k1
        case measure => have := HK1.out; omega
        case rel => exact ⟨(wrap64 (x7_1 + 1)), (by first | rfl | (simp; done) | (simp [*]; done)), H', ⟨by have := HK1.out; omega⟩, ⟨by (with_reducible repeat (first | apply Kd.N_alloc | apply Kd.N_drewN | apply Kd.N_drew)); exact HO_6.out⟩, ⟨by repeat (with_reducible first | exact HB.out | apply l1_ | apply l2_ | apply l3_)⟩⟩
      rw [if_neg c8] at H
      exact absurd H (by simp)
     rw [if_neg c7] at H
     exact absurd H (by simp)
    rw [if_neg c6] at H
    exact absurd H (by simp)
   rw [if_neg c5] at H
   have c5b0 : decide (x7_1 < (t407.length : Int)) = false := decide_eq_false c5
   clear c5
   by_cases c13 : 0 ≤ a1
   ·
    rw [if_pos c13] at H
    have c13b0 : decide (0 ≤ a1) = true := decide_eq_true c13
    clear c13
    by_cases c14 : a1 < (l0.length : Int)
    ·
     rw [if_pos c14] at H
     have c14b0 : decide (a1 < (l0.length : Int)) = true := decide_eq_true c14
     clear c14
     have HC15 := m_ H
     clear H
     obtain ⟨Ao16, co16, eo16⟩ := Kd.N_slice HO_6.out
     subst eo16
     have p413 : 0 ≤ (a1 : Int) := o1_ (by with_reducible assumption)
     have q413 : a1 < (l0.length : Int) := o1_ (by with_reducible assumption)
     obtain ⟨ad413, e413, hx413_0, hx413_1⟩ := at_T65 HR0.out a1 p413 q413
     cases e413
     replace hx413_0 := (HB.out.cell (c1_ w _ hx413_0)).trans hx413_0
     replace hx413_1 := (HB.out.cell (c1_ w _ hx413_1)).trans hx413_1
     replace p413 := eq_true p413
     replace q413 := eq_true q413
     go_upto_region 9 with (fail)
     go_cut [60] (fun v60 wc => ∃ (kq : Nat) (x60_14 : Bool), v60 = .bool x60_14 ∧ Aside0 (jobshellref04_member.j1 kq l0 a1 ((rd_T65 l0 a1).f0) x60_14 = some (r1, r2)) ∧ Aside0 (kq ≤ k1) ∧ Aside0 (Below w.heap.size w wc))
     case first =>
      have H := HC15.out
      clear HC15
      replace H := Option.bind_eq_some_iff.mp H
      obtain ⟨t414, A170, H⟩ := H
      try dsimp -simprocs only at H
      have A17 := m_ A170
      clear A170
      by_cases c18 : t414 = true
      ·
       subst c18
       rw [if_pos rfl] at H
       by_cases c19 : (wrap64 (a1 + 2)) < (l0.length : Int)
       ·
        rw [if_pos c19] at H
        have c19b0 : decide ((wrap64 (a1 + 2)) < (l0.length : Int)) = true := decide_eq_true c19
        clear c19
        (first | rw [c19b0] | (simp only [i64_w, i32_w]; rw [c19b0]) | skip)
        replace H := Option.bind_eq_some_iff.mp H
        obtain ⟨t415, A200, H⟩ := H
        try dsimp -simprocs only at H
        have A20 := m_ A200
        clear A200
        have H' := m_ H
        clear H
        go_wp2_with (first | ((with_reducible refine gate_callee (f := 39) rfl ?_); refine goesL_ (some 46) rfl rfl Try.func39 (by kernel_rfl) rfl #[.slice (some ad413) l0.length c0, .int .i64 (wrap64 (a1 + 1)), .int .u8 45] rfl (by (try simp only [List.map_toArray, List.map_cons, List.map_nil]); first | done | rfl | (simp only [List.length_drop, List.length_take]; rfl)) ?_; (with_reducible refine (jobshellref04_is.calls _ _ l0 (wrap64 (a1 + 1)) 45 true _ ?side1 ?side2 A17.out).mono ?_); (case side1 => repeat (first | exact (Kd.C_below HR0.out HB.out) | (with_reducible refine Kd.C_alloc ?_ _) | (with_reducible refine Kd.C_drewN ?_ _) | (with_reducible refine Kd.C_drew ?_))); (case side2 => exact HC0.out); rintro e w' ⟨rfl, ⟨nd, rfl⟩⟩; refine ⟨_, rfl, ?_⟩) | (go_at_call 39; (with_reducible refine (jobshellref04_is.calls _ _ l0 (wrap64 (a1 + 2)) 93 t415 _ ?side1 ?side2 A20.out).mono ?_); (case side1 => repeat (first | exact (Kd.C_below HR0.out (by repeat (with_reducible first | exact HB.out | apply l1_ | apply l2_ | apply l3_))) | (with_reducible refine Kd.C_alloc ?_ _) | (with_reducible refine Kd.C_drewN ?_ _) | (with_reducible refine Kd.C_drew ?_))); (case side2 => exact HC0.out); rintro e w' ⟨rfl, ⟨nd, rfl⟩⟩))
        go_meet
        case rel => exact ⟨_, (!t415), (by first | rfl | (simp; done) | (simp [*]; done)), H', ⟨by have := HK1.out; first | omega | exact Nat.le_refl _⟩, ⟨by repeat (with_reducible first | exact HB.out | apply l1_ | apply l2_ | apply l3_)⟩⟩
       rw [if_neg c19] at H
       have c19b0 : decide ((wrap64 (a1 + 2)) < (l0.length : Int)) = false := decide_eq_false c19
       clear c19
       (first | rw [c19b0] | (simp only [i64_w, i32_w]; rw [c19b0]) | skip)
       have H' := m_ H
       clear H
       go_wp2_with (first | ((with_reducible refine gate_callee (f := 39) rfl ?_); refine goesL_ (some 46) rfl rfl Try.func39 (by kernel_rfl) rfl #[.slice (some ad413) l0.length c0, .int .i64 (wrap64 (a1 + 1)), .int .u8 45] rfl (by (try simp only [List.map_toArray, List.map_cons, List.map_nil]); first | done | rfl | (simp only [List.length_drop, List.length_take]; rfl)) ?_; (with_reducible refine (jobshellref04_is.calls _ _ l0 (wrap64 (a1 + 1)) 45 true _ ?side1 ?side2 A17.out).mono ?_); (case side1 => repeat (first | exact (Kd.C_below HR0.out HB.out) | (with_reducible refine Kd.C_alloc ?_ _) | (with_reducible refine Kd.C_drewN ?_ _) | (with_reducible refine Kd.C_drew ?_))); (case side2 => exact HC0.out); rintro e w' ⟨rfl, ⟨nd, rfl⟩⟩; refine ⟨_, rfl, ?_⟩))
       go_meet
       case rel => exact ⟨_, (false), (by first | rfl | (simp; done) | (simp [*]; done)), H', ⟨by have := HK1.out; first | omega | exact Nat.le_refl _⟩, ⟨by repeat (with_reducible first | exact HB.out | apply l1_ | apply l2_ | apply l3_)⟩⟩
      ·
       replace c18 := Bool.eq_false_iff.mpr c18
       subst c18
       rw [if_neg (show ¬ (false = true) by decide)] at H
       have H' := m_ H
       clear H
       go_wp2_with (first | ((with_reducible refine gate_callee (f := 39) rfl ?_); refine goesL_ (some 46) rfl rfl Try.func39 (by kernel_rfl) rfl #[.slice (some ad413) l0.length c0, .int .i64 (wrap64 (a1 + 1)), .int .u8 45] rfl (by (try simp only [List.map_toArray, List.map_cons, List.map_nil]); first | done | rfl | (simp only [List.length_drop, List.length_take]; rfl)) ?_; (with_reducible refine (jobshellref04_is.calls _ _ l0 (wrap64 (a1 + 1)) 45 false _ ?side1 ?side2 A17.out).mono ?_); (case side1 => repeat (first | exact (Kd.C_below HR0.out HB.out) | (with_reducible refine Kd.C_alloc ?_ _) | (with_reducible refine Kd.C_drewN ?_ _) | (with_reducible refine Kd.C_drew ?_))); (case side2 => exact HC0.out); rintro e w' ⟨rfl, ⟨nd, rfl⟩⟩; refine ⟨_, rfl, ?_⟩))
       go_meet
       case rel => exact ⟨_, (false), (by first | rfl | (simp; done) | (simp [*]; done)), H', ⟨by have := HK1.out; first | omega | exact Nat.le_refl _⟩, ⟨by repeat (with_reducible first | exact HB.out | apply l1_ | apply l2_ | apply l3_)⟩⟩
     case rest =>
      clear HC15
      (try clear c1); (try clear p2); (try clear c3); (try clear c4); (try clear p4); (try clear q4); (try clear hx4); (try clear c5); (try clear c5b0); (try clear c6); (try clear c6b0); (try clear p6); (try clear c7); (try clear c7b0); (try clear c7b1); (try clear c7b2); (try clear c8); (try clear c8b0); (try clear c8b1); (try clear c8b2); (try clear c10); (try clear c13); (try clear c13b0); (try clear c14); (try clear c14b0); (try clear c18); (try clear c19); (try clear c19b0); (try clear hx410_0); (try clear hx410_1); (try clear hx412_0); (try clear hx412_1); (try clear hx413_0); (try clear hx413_1); (try clear p2); (try clear p410); (try clear p412); (try clear p413); (try clear q410); (try clear q412); (try clear q413)
      obtain ⟨kq, x60_14, rfl, HA, HJ14, HB⟩ := hcut
      cases kq with
      | zero => exact absurd HA.out (by simp [jobshellref04_member.j1])
      | succ kj14 =>
       have H := HA.out
       clear HA
       simp only [jobshellref04_member.j1] at H
       by_cases c21 : x60_14 = true
       ·
        subst c21
        rw [if_pos rfl] at H
        obtain ⟨ji22, hji22⟩ : ∃ j_ : Int, (wrap64 (a1 + 2)) = j_ := ⟨_, rfl⟩
        first | rw [hji22] at H | simp only [hji22] at H
        have hji22w : (IntKind.i64.wrap (a1 + 2)) = ji22 := (i64_w _).trans hji22
        by_cases c23 : 0 ≤ (ji22)
        ·
         rw [if_pos c23] at H
         have c23b0 : decide (0 ≤ (ji22)) = true := decide_eq_true c23
         clear c23
         by_cases c24 : (ji22) < (l0.length : Int)
         ·
          rw [if_pos c24] at H
          have c24b0 : decide ((ji22) < (l0.length : Int)) = true := decide_eq_true c24
          clear c24
          by_cases c25 : ((rd_T65 l0 a1).f0) ≤ ((rd_T65 l0 (ji22)).f0)
          ·
           rw [if_pos c25] at H
           have c25b0 : decide (((rd_T65 l0 a1).f0) ≤ ((rd_T65 l0 (ji22)).f0)) = true := decide_eq_true c25
           clear c25
           obtain ⟨y417, hy417⟩ : ∃ y_ : List (S58), y_ = (([(⟨((rd_T65 l0 a1).f0), (rd_T65 l0 (ji22)).f0⟩ : S58)] : List (S58))) := ⟨_, rfl⟩
           replace H : (some (y417, wrap64 (a1 + 3))) = some (r1, r2) := by subst hy417; exact H
           have Ny417 := m_ hy417
           clear hy417
           simp only [Option.some.injEq, Prod.mk.injEq] at H
           obtain ⟨rfl, rfl⟩ := H
           have p416 : 0 ≤ ((ji22) : Int) := o1_ (by with_reducible assumption)
           have q416 : (ji22) < (l0.length : Int) := o1_ (by with_reducible assumption)
           obtain ⟨ad416, e416, hx416_0, hx416_1⟩ := at_T65 HR0.out (ji22) p416 q416
           obtain rfl : ad413 = ad416 := (by injection e416)
           replace hx416_0 := (HB.out.cell (c1_ w _ hx416_0)).trans hx416_0
           replace hx416_1 := (HB.out.cell (c1_ w _ hx416_1)).trans hx416_1
           replace p416 := eq_true p416
           replace q416 := eq_true q416
           go_wp2_with (first | ((with_reducible refine gate_dst (N := 73) rfl ?_); (try (refine gate_guard (by rfl) ?_; dsimp only)); refine Kd.R_lit k58 _ 58 ?hg (N := 73) ?hd (xs := ([(⟨((rd_T65 l0 a1).f0), (rd_T65 l0 (ji22)).f0⟩ : S58)] : List (S58))) (inner := [.int .u8 ((rd_T65 l0 a1).f0), .int .u8 ((rd_T65 l0 (ji22)).f0)]) (ok := fun _ => True) (okp := fun _ => True) ?hr ?hp (fun _ hk => hk) trivial (Below.refl _ _) (Nat.le_refl _) (by simp) ?_; (case hd => rfl); (case hg => rfl); (case hr => first | (go_simp; done) | (go_simp; rfl)); (case hp => exact (Reps.c2 (show Kd.M k58 _ _ _ (⟨((rd_T65 l0 a1).f0), (rd_T65 l0 (ji22)).f0⟩ : S58) [.int .u8 ((rd_T65 l0 a1).f0), .int .u8 ((rd_T65 l0 (ji22)).f0)] from (k58_mkM _ _ _ (⟨((rd_T65 l0 a1).f0), (rd_T65 l0 (ji22)).f0⟩ : S58) )) (Reps.none _ _))); intro v418 w26 ho27 hb hg_ hnew_; clear hg_ hnew_; (first | rw [← Ny417.out] at ho27 | (simp only [Int.reduceToNat] at ho27; rw [← Ny417.out] at ho27)); have HO419 := m_ (Kd.R_lower (Kd.R_newM (M := fun k_ => (w.heap.size ≤ k_)) ho27 (l6_ (by repeat (with_reducible first | exact HB.out | apply l1_ | apply l2_ | apply l3_))) (fun k_ h_ => h_)) (l6_ (by repeat (with_reducible first | exact HB.out | apply l1_ | apply l2_ | apply l3_)))); replace HB := m_ (l5_ (by repeat (with_reducible first | exact HB.out | apply l1_ | apply l2_ | apply l3_)) hb); clear hb ho27))
           go_ret2
           exact ⟨_, by first | rfl | (simp [errW_none, errW_some] <;> rfl) | (simp only [← hji22]; first | rfl | (simp [errW_none, errW_some] <;> rfl)) | (simp [*, errW_none, errW_some] <;> rfl), Kd.R_V (by (with_reducible repeat (first | apply r1_ | apply r2_ | apply r3_)); exact Kd.R_mono HO419.out (fun _ hk => hk.1)), by repeat (with_reducible first | exact HB.out | apply l1_ | apply l2_ | apply l3_)⟩
          rw [if_neg c25] at H
          have c25b0 : decide (((rd_T65 l0 a1).f0) ≤ ((rd_T65 l0 (ji22)).f0)) = false := decide_eq_false c25
          clear c25
          simp only [Option.some.injEq, Prod.mk.injEq] at H
          obtain ⟨rfl, rfl⟩ := H
          have p416 : 0 ≤ ((ji22) : Int) := o1_ (by with_reducible assumption)
          have q416 : (ji22) < (l0.length : Int) := o1_ (by with_reducible assumption)
          obtain ⟨ad416, e416, hx416_0, hx416_1⟩ := at_T65 HR0.out (ji22) p416 q416
          obtain rfl : ad413 = ad416 := (by injection e416)
          replace hx416_0 := (HB.out.cell (c1_ w _ hx416_0)).trans hx416_0
          replace hx416_1 := (HB.out.cell (c1_ w _ hx416_1)).trans hx416_1
          replace p416 := eq_true p416
          replace q416 := eq_true q416
          go_wp2
          go_ret2
          exact ⟨_, by first | rfl | (simp [errW_none, errW_some] <;> rfl) | (simp only [← hji22]; first | rfl | (simp [errW_none, errW_some] <;> rfl)) | (simp [*, errW_none, errW_some] <;> rfl), Kd.V_nil _ _ _ _ _, by repeat (with_reducible first | exact HB.out | apply l1_ | apply l2_ | apply l3_)⟩
         rw [if_neg c24] at H
         exact absurd H (by simp)
        rw [if_neg c23] at H
        exact absurd H (by simp)
       ·
        replace c21 := Bool.eq_false_iff.mpr c21
        subst c21
        rw [if_neg (show ¬ (false = true) by decide)] at H
        obtain ⟨y420, hy420⟩ : ∃ y_ : List (S58), y_ = (([(⟨((rd_T65 l0 a1).f0), ((rd_T65 l0 a1).f0)⟩ : S58)] : List (S58))) := ⟨_, rfl⟩
        replace H : (some (y420, wrap64 (a1 + 1))) = some (r1, r2) := by subst hy420; exact H
        have Ny420 := m_ hy420
        clear hy420
        simp only [Option.some.injEq, Prod.mk.injEq] at H
        obtain ⟨rfl, rfl⟩ := H
        go_wp2_with (first | ((with_reducible refine gate_dst (N := 81) rfl ?_); (try (refine gate_guard (by rfl) ?_; dsimp only)); refine Kd.R_lit k58 _ 58 ?hg (N := 81) ?hd (xs := ([(⟨((rd_T65 l0 a1).f0), ((rd_T65 l0 a1).f0)⟩ : S58)] : List (S58))) (inner := [.int .u8 ((rd_T65 l0 a1).f0), .int .u8 ((rd_T65 l0 a1).f0)]) (ok := fun _ => True) (okp := fun _ => True) ?hr ?hp (fun _ hk => hk) trivial (Below.refl _ _) (Nat.le_refl _) (by simp) ?_; (case hd => rfl); (case hg => rfl); (case hr => first | (go_simp; done) | (go_simp; rfl)); (case hp => exact (Reps.c2 (show Kd.M k58 _ _ _ (⟨((rd_T65 l0 a1).f0), ((rd_T65 l0 a1).f0)⟩ : S58) [.int .u8 ((rd_T65 l0 a1).f0), .int .u8 ((rd_T65 l0 a1).f0)] from (k58_mkM _ _ _ (⟨((rd_T65 l0 a1).f0), ((rd_T65 l0 a1).f0)⟩ : S58) )) (Reps.none _ _))); intro v421 w28 ho29 hb hg_ hnew_; clear hg_ hnew_; (first | rw [← Ny420.out] at ho29 | (simp only [Int.reduceToNat] at ho29; rw [← Ny420.out] at ho29)); have HO422 := m_ (Kd.R_lower (Kd.R_newM (M := fun k_ => (w.heap.size ≤ k_)) ho29 (l6_ (by repeat (with_reducible first | exact HB.out | apply l1_ | apply l2_ | apply l3_))) (fun k_ h_ => h_)) (l6_ (by repeat (with_reducible first | exact HB.out | apply l1_ | apply l2_ | apply l3_)))); replace HB := m_ (l5_ (by repeat (with_reducible first | exact HB.out | apply l1_ | apply l2_ | apply l3_)) hb); clear hb ho29))
        go_ret2
        exact ⟨_, by first | rfl | (simp [errW_none, errW_some] <;> rfl) | (simp [*, errW_none, errW_some] <;> rfl), Kd.R_V (by (with_reducible repeat (first | apply r1_ | apply r2_ | apply r3_)); exact Kd.R_mono HO422.out (fun _ hk => hk.1)), by repeat (with_reducible first | exact HB.out | apply l1_ | apply l2_ | apply l3_)⟩
    rw [if_neg c14] at H
    exact absurd H (by simp)
   rw [if_neg c13] at H
   exact absurd H (by simp)
end Go.Proofs.Ytbekhjcnmifnnaa.Q
