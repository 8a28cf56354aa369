import Derived.Test.YtbekhjcnmifnnaaQ0
import Derived.Test.YtbekhjcnmifnnaaQ35
set_option linter.unusedVariables false
set_option linter.unusedSimpArgs false
namespace Go.Proofs.Ytbekhjcnmifnnaa.Q
open Go.RowKit Go.Proofs.YtbekhjcnmifnnaaW.PrintWords Go.Proofs.YtbekhjcnmifnnaaW.PrintLast Go.Proofs.YtbekhjcnmifnnaaW.PrintMore
def jobshellref04_set.l0 : Nat → List (S58) → List (S58) → Int → Option ((List (S58)))
 | 0, _, _, _ => none
 | k + 1, x0, x3, x4 => if x4 < 256 then ((jobshellref04_in.f k x0 ((x4) % 256)).bind fun t425 => (if t425 = true then (if (x3.length : Int) > 0 then (if 0 ≤ (wrap64 ((x3.length : Int) - 1)) then (if (wrap64 ((x3.length : Int) - 1)) < (x3.length : Int) then (if (wrap64 ((wrap64 ((rd_T58 x3 (wrap64 ((x3.length : Int) - 1))).f1)) + 1)) = x4 then (jobshellref04_set.l0 k x0 (x3.set ((wrap64 ((x3.length : Int) - 1)) : Int).toNat (⟨(rd_T58 x3 (wrap64 ((x3.length : Int) - 1))).f0, (x4) % 256⟩ : S58)) (wrap64 (x4 + 1))) else (if x3.length < 70368744177664 then (jobshellref04_set.l0 k x0 (x3 ++ [(⟨(x4) % 256, (x4) % 256⟩ : S58)]) (wrap64 (x4 + 1))) else (none))) else (none)) else (none)) else (if x3.length < 70368744177664 then (jobshellref04_set.l0 k x0 (x3 ++ [(⟨(x4) % 256, (x4) % 256⟩ : S58)]) (wrap64 (x4 + 1))) else (none))) else (jobshellref04_set.l0 k x0 x3 (wrap64 (x4 + 1))))) else (some x3)
def jobshellref04_set.f (k : Nat) (l0 : List (S58)) : Option ((List (S58))) := jobshellref04_set.l0 k l0 ([] : List (S58)) 0
set_option maxHeartbeats 8000000 in
set_option maxRecDepth 100000 in
theorem jobshellref04_set.calls (k : Nat) (A0 : Option Addr) (c0 : Nat) (l0 : List (S58)) (r : List (S58)) (w : World) (hr0 : Kd.C k58 w A0 l0.length l0) (hc0 : l0.length ≤ c0) (h : jobshellref04_set.f k l0 = some r) :
 Calls Try.prog 51 #[.slice A0 l0.length c0] w fun e w' => ∃ v0_ : Value, e = .returned (v0_) ∧ Kd.R k58 58 w' w.heap.size (fun _ => True) v0_ r ∧ Below w.heap.size w w' := by
 have hu58 := Try.underlying58
 have HR0 := m_ hr0
 have HC0 := m_ hc0
 clear hr0 hc0
 have HB := m_ (Below.refl w.heap.size w)
 have H : (jobshellref04_set.l0 k l0 ([] : List (S58)) 0) = some r := h
 clear h
 have H' := m_ H
 clear H
 go_enter Try.func51, Try.ntmps51
 go_wp2
 go_loopg [3, 4] k (fun kq v3 v4 w' => ∃ (x3_1 : List (S58)) (x4_1 : Int), v4 = .int .i64 x4_1 ∧ Aside0 (jobshellref04_set.l0 kq l0 x3_1 x4_1 = some r) ∧ Aside0 (kq ≤ k) ∧ Aside0 (Kd.R k58 58 w' w.heap.size (fun _ => True) v3 x3_1) ∧ Aside0 (Below w.heap.size w w'))
 case atStart => exact ⟨(([] : List (S58))), (0), (by first | rfl | (simp; done) | (simp [*]; done)), H', ⟨Nat.le_refl _⟩, ⟨by first | exact Kd.R_nil _ _ _ _ _ | exact Kd.N_nil _ _ _ _ _ | exact Kd.V_nil _ _ _ _ _ | exact Kd.Q_nil _ _ _ _ _ | exact Kd.S_nil _ _ _ _ _⟩, ⟨by repeat (with_reducible first | exact HB.out | apply l1_ | apply l2_ | apply l3_)⟩⟩
 case round =>
  clear H'
  obtain ⟨x3_1, x4_1, rfl, HA, HK1, HO_3, HB⟩ := hrel
  cases gk with
  | zero => exact absurd HA.out (by simp [jobshellref04_set.l0])
  | succ k1 =>
   have H := HA.out
   clear HA
   simp only [jobshellref04_set.l0] at H
   by_cases c2 : x4_1 < 256
   ·
    rw [if_pos c2] at H
    have c2b0 : decide (x4_1 < 256) = true := decide_eq_true c2
    clear c2
    replace H := Option.bind_eq_some_iff.mp H
    obtain ⟨t425, A30, H⟩ := H
    try dsimp -simprocs only at H
    have A3 := m_ A30
    clear A30
    by_cases c4 : t425 = true
    ·
     subst c4
     rw [if_pos rfl] at H
     by_cases c5 : (x3_1.length : Int) > 0
     ·
      rw [if_pos c5] at H
      have c5b0 : decide (0 < (x3_1.length : Int)) = true := decide_eq_true c5
      have c5b1 : decide (0 < x3_1.length) = true := decide_eq_true (by omega)
      clear c5
      obtain ⟨ji6, hji6⟩ : ∃ j_ : Int, (wrap64 ((x3_1.length : Int) - 1)) = j_ := ⟨_, rfl⟩
      first | rw [hji6] at H | simp only [hji6] at H
      (try rw [hji6] at A3)
      have hji6w : (IntKind.i64.wrap ((x3_1.length : Int) - 1)) = ji6 := (i64_w _).trans hji6
      by_cases c7 : 0 ≤ (ji6)
      ·
       rw [if_pos c7] at H
       have c7b0 : decide (0 ≤ (ji6)) = true := decide_eq_true c7
       clear c7
       by_cases c8 : (ji6) < (x3_1.length : Int)
       ·
        rw [if_pos c8] at H
        have c8b0 : decide ((ji6) < (x3_1.length : Int)) = true := decide_eq_true c8
        clear c8
        by_cases c9 : (wrap64 ((wrap64 ((rd_T58 x3_1 (ji6)).f1)) + 1)) = x4_1
        ·
         rw [if_pos c9] at H
         have c9b0 : ((wrap64 ((wrap64 ((rd_T58 x3_1 (ji6)).f1)) + 1)) == x4_1) = true := beq_iff_eq.mpr c9
         have c9b1 : ((wrap64 ((wrap64 ((rd_T58 x3_1 (ji6)).f1)) + 1)) != x4_1) = false := bne_eq_false_iff_eq.mpr c9
         clear c9
         obtain ⟨y427, hy427⟩ : ∃ y_ : List (S58), y_ = (x3_1.set ((ji6) : Int).toNat (⟨(rd_T58 x3_1 (ji6)).f0, (x4_1) % 256⟩ : S58)) := ⟨_, rfl⟩
         replace H : (jobshellref04_set.l0 k1 l0 y427 (wrap64 (x4_1 + 1))) = some r := by subst hy427; exact H
         have Ny427 := m_ hy427
         clear hy427
         have H' := m_ H
         clear H
         go_wp2_with (first | ((with_reducible refine gate_callee (f := 55) rfl ?_); refine goesL_ (some 13) rfl rfl Try.func55 (by kernel_rfl) rfl #[.slice A0 l0.length c0, .int .u8 ((x4_1) % 256)] rfl (by (try simp only [List.map_toArray, List.map_cons, List.map_nil]); first | done | rfl | (simp only [List.length_drop, List.length_take]; rfl)) ?_; (with_reducible refine (jobshellref04_in.calls k1 _ _ l0 ((x4_1) % 256) true _ ?side1 ?side2 A3.out).mono ?_); (case side1 => repeat (first | exact (Kd.C_below HR0.out HB.out) | (with_reducible refine Kd.C_alloc ?_ _) | (with_reducible refine Kd.C_drewN ?_ _) | (with_reducible refine Kd.C_drew ?_))); (case side2 => exact HC0.out); rintro e w' ⟨rfl, ⟨nd, rfl⟩⟩; refine ⟨_, rfl, ?_⟩; (try (rw [drewN_self wr]; generalize hq_ : World.drewN wr _ = wr; have n0_ : Aside0 (Kd.R k58 58 wr w.heap.size (fun _ => True) u3 x3_1) := ⟨by rw [← hq_]; exact (by (with_reducible repeat (first | apply r1_ | apply r2_ | apply r3_)); exact HO_3.out)⟩; have n1_ : Aside0 (Below w.heap.size w wr) := ⟨by rw [← hq_]; exact (by repeat (with_reducible first | exact HB.out | apply l1_ | apply l2_ | apply l3_))⟩; clear HO_3 HB hq_; have HO_3 := n0_; have HB := n1_; clear n0_ n1_)); obtain ⟨Ao11, co11, eo11⟩ := Kd.R_slice HO_3.out; subst eo11; have p426 : 0 ≤ ((ji6) : Int) := o1_ (by with_reducible assumption); have q426 : (ji6) < (x3_1.length : Int) := o1_ (by with_reducible assumption); obtain ⟨ad426, e426, hx426_0, hx426_1⟩ := at_T58 (Kd.R_reads' HO_3.out).2.2 (ji6) p426 q426; cases e426; replace p426 := eq_true p426; replace q426 := eq_true q426; have p10 : 0 ≤ ((ji6) : Int) := o1_ (by with_reducible assumption); have q10 : ((ji6) : Int) < ((x3_1.length : Int) : Int) := o1_ (by with_reducible assumption); obtain ⟨go10, co10, eo10, gb10, gl10, cl10, HG10⟩ := Kd.R_form HO_3.out (by omega); (first | cases eo10 | (injection eo10 with ea_ en_ ec_; (first | subst ea_ | (injection ea_ with ea_; subst ea_)); subst ec_; clear en_)); have GB10 := m_ gb10; have GG10 := m_ HG10; clear gb10 gl10 HG10; (first | simp only [add_plain] at hx426_0 | skip); (first | simp only [add_plain] at hx426_1 | skip); obtain ⟨ce10, hcl10, hM10, hcc10, hfr10⟩ := Kd.R_elem HO_3.out z58 ((ji6) : Int) p10 q10; obtain rfl := k58_openM hM10; have hx10_0 : wr.cell? ⟨go10, ((ji6) : Int).toNat * 2, none⟩ = some (.int .u8 ((rd_T58 x3_1 (ji6)).f0)) := hcc10 0 _ rfl; have hx10_1 : wr.cell? ⟨go10, ((ji6) : Int).toNat * 2 + 1, none⟩ = some (.int .u8 ((rd_T58 x3_1 (ji6)).f1)) := hcc10 1 _ rfl; have hf10_0 : wr.frozen? ⟨go10, ((ji6) : Int).toNat * 2, none⟩ = false := hfr10 0; have hf10_1 : wr.frozen? ⟨go10, ((ji6) : Int).toNat * 2 + 1, none⟩ = false := hfr10 1; clear hcl10 hcc10 hfr10 hM10; replace p10 := eq_true p10; replace q10 := eq_true q10; have HX12 := m_ (show Kd.R k58 58 wr w.heap.size (fun _ => True) (.slice (some ⟨go10, 0, none⟩) x3_1.length co11) x3_1 from (by (with_reducible repeat (first | apply r1_ | apply r2_ | apply r3_)); exact HO_3.out)); obtain ⟨ce12, hcl12, hM12, hcc12, hfr12⟩ := Kd.R_elem HX12.out z58 ((ji6) : Int) (o1_ (by with_reducible assumption)) (by have h_ : ((ji6) : Int) < ((x3_1.length : Int) : Int) := o1_ (by with_reducible assumption); first | exact h_ | (have e_ := (Kd.R_reads' HO_3.out).1; omega) | simpa using h_); obtain rfl := k58_openM hM12; have HP12 := Kd.R_seg HX12.out ((ji6) : Int) (o1_ (by with_reducible assumption)) (by have h_ : ((ji6) : Int) < ((x3_1.length : Int) : Int) := o1_ (by with_reducible assumption); first | exact h_ | (have e_ := (Kd.R_reads' HO_3.out).1; omega) | simpa using h_) (seg := [.int .u8 ((x4_1) % 256)]) (j := 1) hcl12 hcc12 (show 2 ≤ 2 from by decide) (x' := (⟨(rd_T58 x3_1 (ji6)).f0, (x4_1) % 256⟩ : S58)) (k58_mkM _ _ _ (⟨(rd_T58 x3_1 (ji6)).f0, (x4_1) % 256⟩ : S58) ) (fun _ hk => hk); have hx12_1 := hcc12 1 _ rfl; (try simp only [show (k58).sz = 2 from rfl, Nat.mul_one, Nat.add_zero] at hx12_1); have hf12_1 := hfr12 1; (try simp only [show (k58).sz = 2 from rfl, Nat.mul_one, Nat.add_zero] at hf12_1); clear hcl12 hcc12 hfr12 hM12) | ((with_reducible refine gate_store (t := 5) (p := 37) rfl ?_); refine store_event (t := 5) (p := 37) (v := ?vo_w13) (w1 := (wr.setCell ⟨go10, ((ji6) : Int).toNat * 2 + 1, none⟩ (.int .u8 ((x4_1) % 256)))) ?hg ?ho ?hn ?hr ?_; (case ho => rfl); (case hg => rfl); (case hn => rfl); (case hr => first | (go_simp; done) | (go_simp; rfl)); intro w13 hw; have hg : wr.grownBy w13 (some go10) := (by rw [hw]; exact HP12.2); have hp_ : Kd.R k58 58 w13 w.heap.size (fun _ => True) (.slice (some ⟨go10, 0, none⟩) x3_1.length co11) y427 := (by rw [hw, Ny427.out]; exact HP12.1); clear HP12; replace HO_3 := m_ (hp_); replace HB := m_ ((by rw [hw]; exact l4_ (HB.out) GB10.out : Below w.heap.size w w13)); clear hg hw hp_))
         go_roundg k1
         case measure => have := HK1.out; omega
         case rel => exact ⟨(y427), (wrap64 (x4_1 + 1)), (by first | rfl | (simp; done) | (simp [*]; done)), H', ⟨by have := HK1.out; omega⟩, ⟨by (with_reducible repeat (first | apply r1_ | apply r2_ | apply r3_)); exact HO_3.out⟩, ⟨by repeat (with_reducible first | exact HB.out | apply l1_ | apply l2_ | apply l3_)⟩⟩
        rw [if_neg c9] at H
        have c9b0 : ((wrap64 ((wrap64 ((rd_T58 x3_1 (ji6)).f1)) + 1)) == x4_1) = false := beq_eq_false_iff_ne.mpr c9
        have c9b1 : ((wrap64 ((wrap64 ((rd_T58 x3_1 (ji6)).f1)) + 1)) != x4_1) = true := bne_iff_ne.mpr c9
        by_cases c14 : x3_1.length < 70368744177664
        ·
         rw [if_pos c14] at H
         have LMc14 := m_ c14
         clear c14
         obtain ⟨y428, hy428⟩ : ∃ y_ : List (S58), y_ = (x3_1 ++ [(⟨(x4_1) % 256, (x4_1) % 256⟩ : S58)]) := ⟨_, rfl⟩
         replace H : (jobshellref04_set.l0 k1 l0 y428 (wrap64 (x4_1 + 1))) = some r := by subst hy428; exact H
         have Ny428 := m_ hy428
         clear hy428
         have H' := m_ H
         clear H
         go_wp2_with (first | ((with_reducible refine gate_callee (f := 55) rfl ?_); refine goesL_ (some 13) rfl rfl Try.func55 (by kernel_rfl) rfl #[.slice A0 l0.length c0, .int .u8 ((x4_1) % 256)] rfl (by (try simp only [List.map_toArray, List.map_cons, List.map_nil]); first | done | rfl | (simp only [List.length_drop, List.length_take]; rfl)) ?_; (with_reducible refine (jobshellref04_in.calls k1 _ _ l0 ((x4_1) % 256) true _ ?side1 ?side2 A3.out).mono ?_); (case side1 => repeat (first | exact (Kd.C_below HR0.out HB.out) | (with_reducible refine Kd.C_alloc ?_ _) | (with_reducible refine Kd.C_drewN ?_ _) | (with_reducible refine Kd.C_drew ?_))); (case side2 => exact HC0.out); rintro e w' ⟨rfl, ⟨nd, rfl⟩⟩; refine ⟨_, rfl, ?_⟩; obtain ⟨Ao15, co15, eo15⟩ := Kd.R_slice HO_3.out; subst eo15; have p426 : 0 ≤ ((ji6) : Int) := o1_ (by with_reducible assumption); have q426 : (ji6) < (x3_1.length : Int) := o1_ (by with_reducible assumption); obtain ⟨ad426, e426, hx426_0, hx426_1⟩ := at_T58 (Kd.R_reads' HO_3.out).2.2 (ji6) p426 q426; cases e426; replace p426 := eq_true p426; replace q426 := eq_true q426) | ((with_reducible refine gate_builtin (b := .append) (xs := #[.tmp 38, .tmp 44]) rfl ?_); at_builtin; refine Kd.R_append k58 (w0 := w) w.heap.size rfl (.tmp 38) (.tmp 44) 33 58 (.agg #[(.int .u8 0), (.int .u8 0)]) 2 rfl Try.underlying33 info58 rfl (by decide) (by omega) (.slice (some ad426) x3_1.length co15) x3_1 (⟨(x4_1) % 256, (x4_1) % 256⟩ : S58) [.int .u8 ((x4_1) % 256), .int .u8 ((x4_1) % 256)] (fun _ => True) (fun _ => False) rfl rfl ?aP (fun _ hk => hk.elim) ?aF ?aO ?aB ?aS ?aL ?_; (case aP => exact k58_mkM _ _ _ (⟨(x4_1) % 256, (x4_1) % 256⟩ : S58)); (case aB => exact (by repeat (with_reducible first | exact HB.out | apply l1_ | apply l2_ | apply l3_))); (case aF => exact (fun _ _ => trivial)); (case aO => exact (by (with_reducible repeat (first | apply r1_ | apply r2_ | apply r3_)); exact HO_3.out)); (case aS => exact (l6_ (by repeat (with_reducible first | exact HB.out | apply l1_ | apply l2_ | apply l3_)))); (case aL => have := LMc14.out; omega); intro v429 w16 ho hb hg hat; rw [← Ny428.out] at ho; replace HB := m_ (hb); have HO430 := m_ (ho); clear HO_3; clear ho hb hg hat))
         go_roundg k1
         case measure => have := HK1.out; omega
         case rel => exact ⟨(y428), (wrap64 (x4_1 + 1)), (by first | rfl | (simp; done) | (simp [*]; done)), H', ⟨by have := HK1.out; omega⟩, ⟨by (with_reducible repeat (first | apply r1_ | apply r2_ | apply r3_)); exact HO430.out⟩, ⟨by repeat (with_reducible first | exact HB.out | apply l1_ | apply l2_ | apply l3_)⟩⟩
        rw [if_neg c14] at H
        exact absurd H (by simp)
       rw [if_neg c8] at H
       exact absurd H (by simp)
      rw [if_neg c7] at H
      exact absurd H (by simp)
     rw [if_neg c5] at H
     have c5b0 : decide (0 < (x3_1.length : Int)) = false := decide_eq_false c5
     have c5b1 : decide (0 < x3_1.length) = false := decide_eq_false (by omega)
     clear c5
     by_cases c17 : x3_1.length < 70368744177664
     ·
      rw [if_pos c17] at H
      have LMc17 := m_ c17
      clear c17
      obtain ⟨y431, hy431⟩ : ∃ y_ : List (S58), y_ = (x3_1 ++ [(⟨(x4_1) % 256, (x4_1) % 256⟩ : S58)]) := ⟨_, rfl⟩
      replace H : (jobshellref04_set.l0 k1 l0 y431 (wrap64 (x4_1 + 1))) = some r := by subst hy431; exact H
      have Ny431 := m_ hy431
      clear hy431
      have H' := m_ H
      clear H
      go_wp2_with (first | ((with_reducible refine gate_callee (f := 55) rfl ?_); refine goesL_ (some 13) rfl rfl Try.func55 (by kernel_rfl) rfl #[.slice A0 l0.length c0, .int .u8 ((x4_1) % 256)] rfl (by (try simp only [List.map_toArray, List.map_cons, List.map_nil]); first | done | rfl | (simp only [List.length_drop, List.length_take]; rfl)) ?_; (with_reducible refine (jobshellref04_in.calls k1 _ _ l0 ((x4_1) % 256) true _ ?side1 ?side2 A3.out).mono ?_); (case side1 => repeat (first | exact (Kd.C_below HR0.out HB.out) | (with_reducible refine Kd.C_alloc ?_ _) | (with_reducible refine Kd.C_drewN ?_ _) | (with_reducible refine Kd.C_drew ?_))); (case side2 => exact HC0.out); rintro e w' ⟨rfl, ⟨nd, rfl⟩⟩; refine ⟨_, rfl, ?_⟩; obtain ⟨Ao18, co18, eo18⟩ := Kd.R_slice HO_3.out; subst eo18) | ((with_reducible refine gate_builtin (b := .append) (xs := #[.tmp 38, .tmp 44]) rfl ?_); at_builtin; refine Kd.R_append k58 (w0 := w) w.heap.size rfl (.tmp 38) (.tmp 44) 33 58 (.agg #[(.int .u8 0), (.int .u8 0)]) 2 rfl Try.underlying33 info58 rfl (by decide) (by omega) (.slice Ao18 x3_1.length co18) x3_1 (⟨(x4_1) % 256, (x4_1) % 256⟩ : S58) [.int .u8 ((x4_1) % 256), .int .u8 ((x4_1) % 256)] (fun _ => True) (fun _ => False) rfl rfl ?aP (fun _ hk => hk.elim) ?aF ?aO ?aB ?aS ?aL ?_; (case aP => exact k58_mkM _ _ _ (⟨(x4_1) % 256, (x4_1) % 256⟩ : S58)); (case aB => exact (by repeat (with_reducible first | exact HB.out | apply l1_ | apply l2_ | apply l3_))); (case aF => exact (fun _ _ => trivial)); (case aO => exact (by (with_reducible repeat (first | apply r1_ | apply r2_ | apply r3_)); exact HO_3.out)); (case aS => exact (l6_ (by repeat (with_reducible first | exact HB.out | apply l1_ | apply l2_ | apply l3_)))); (case aL => have := LMc17.out; omega); intro v432 w19 ho hb hg hat; rw [← Ny431.out] at ho; replace HB := m_ (hb); have HO433 := m_ (ho); clear HO_3; clear ho hb hg hat))
      go_roundg k1
      case measure => have := HK1.out; omega
      case rel => exact ⟨(y431), (wrap64 (x4_1 + 1)), (by first | rfl | (simp; done) | (simp [*]; done)), H', ⟨by have := HK1.out; omega⟩, ⟨by (with_reducible repeat (first | apply r1_ | apply r2_ | apply r3_)); exact HO433.out⟩, ⟨by repeat (with_reducible first | exact HB.out | apply l1_ | apply l2_ | apply l3_)⟩⟩
     rw [if_neg c17] at H
     exact absurd H (by simp)
    ·
     replace c4 := Bool.eq_false_iff.mpr c4
     subst c4
     rw [if_neg (show ¬ (false = true) by decide)] at H
     have H' := m_ H
     clear H
     go_wp2_with (first | ((with_reducible refine gate_callee (f := 55) rfl ?_); refine goesL_ (some 13) rfl rfl Try.func55 (by kernel_rfl) rfl #[.slice A0 l0.length c0, .int .u8 ((x4_1) % 256)] rfl (by (try simp only [List.map_toArray, List.map_cons, List.map_nil]); first | done | rfl | (simp only [List.length_drop, List.length_take]; rfl)) ?_; (with_reducible refine (jobshellref04_in.calls k1 _ _ l0 ((x4_1) % 256) false _ ?side1 ?side2 A3.out).mono ?_); (case side1 => repeat (first | exact (Kd.C_below HR0.out HB.out) | (with_reducible refine Kd.C_alloc ?_ _) | (with_reducible refine Kd.C_drewN ?_ _) | (with_reducible refine Kd.C_drew ?_))); (case side2 => exact HC0.out); rintro e w' ⟨rfl, ⟨nd, rfl⟩⟩; refine ⟨_, rfl, ?_⟩))
     go_roundg k1
     case measure => have := HK1.out; omega
     case rel => exact ⟨(x3_1), (wrap64 (x4_1 + 1)), (by first | rfl | (simp; done) | (simp [*]; done)), H', ⟨by have := HK1.out; omega⟩, ⟨by (with_reducible repeat (first | apply r1_ | apply r2_ | apply r3_)); exact HO_3.out⟩, ⟨by repeat (with_reducible first | exact HB.out | apply l1_ | apply l2_ | apply l3_)⟩⟩
   rw [if_neg c2] at H
   have c2b0 : decide (x4_1 < 256) = false := decide_eq_false c2
   clear c2
   obtain rfl := Option.some.inj H
   go_wp2
   go_ret
   exact ⟨_, by first | rfl | (simp [errW_none, errW_some] <;> rfl) | (simp [*, errW_none, errW_some] <;> rfl), by (with_reducible repeat (first | apply r1_ | apply r2_ | apply r3_)); exact HO_3.out, by repeat (with_reducible first | exact HB.out | apply l1_ | apply l2_ | apply l3_)⟩
end Go.Proofs.Ytbekhjcnmifnnaa.Q
