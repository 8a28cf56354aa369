/- The contracts of codec.sealed and codec.Seal, by hand: the four bytes of the checksum stand in an array. Conditions: those written at each. -/
import Derived.Test.YtdgdabgbdephnaaQ1
import Derived.Test.YtdgdabgbdephnaaQ4
import Derived.WalkLawsBesides
import Derived.Deep.DeepMust
set_option linter.unusedVariables false
set_option linter.unusedSimpArgs false
namespace Go.Proofs.Ytdgdabgbdephnaa.Q
open Go.RowKit Go.Proofs.YtdgdabgbdephnaaW.PrintWords Go.Proofs.YtdgdabgbdephnaaW.PrintLast Go.Proofs.YtdgdabgbdephnaaW.PrintMore

/-- The four bytes of a number, the highest first. -/
def four_ (n : Int) : List Int := [n / 16777216 % 256, n / 65536 % 256, n / 256 % 256, n % 256]
abbrev fourA (n : Int) : Array Value := #[.int .u8 (n / 16777216 % 256), .int .u8 (n / 65536 % 256), .int .u8 (n / 256 % 256), .int .u8 (n % 256)]
set_option maxHeartbeats 4000000 in
set_option maxRecDepth 100000 in
theorem codec_sealed.calls (k : Nat) (A0 : Option Addr) (c0 : Nat) (l0 : List Int) (n : Int) (w : World) (hr0 : Kd.C (Kd.int .u8) w A0 l0.length l0) (hc0 : l0.length ≤ c0) (h : codec_Sum.f k l0 = some n) :
    Calls Try.prog 37 #[.slice A0 l0.length c0] w fun e w' => e = .returned (.agg (fourA n)) ∧ Below w.heap.size w w' := by
  have A1 := Aside0.mk h
  have HC := Aside0.mk hr0
  have Hc := Aside0.mk hc0
  clear h hr0 hc0
  go_enter Try.func37, Try.ntmps37
  go_wp2_with (go_at_call 16; refine (codec_Sum.calls k A0 c0 l0 n _ (Kd.C_alloc HC.out _) Hc.out A1.out).mono ?_; rintro e w' ⟨rfl, ⟨nd, rfl⟩⟩)
  obtain ⟨W, hW⟩ : ∃ W, W = (((((w.alloc (Obj.cells #[.int .u8 0, .int .u8 0, .int .u8 0, .int .u8 0] 68)).drewN nd).setCell ⟨w.heap.size, 0, none⟩ (.int .u8 (n / 16777216 % 256))).setCell ⟨w.heap.size, 1, none⟩ (.int .u8 (n / 65536 % 256))).setCell ⟨w.heap.size, 2, none⟩ (.int .u8 (n / 256 % 256))).setCell ⟨w.heap.size, 3, none⟩ (.int .u8 (n % 256)) := ⟨_, rfl⟩
  rw [← hW]
  have hB : W.heap[w.heap.size]? = some (.cells (fourA n) 68 (0, 0)) := by
    rw [hW]
    exact blk_put (blk_put (blk_put (blk_put (blk_drewN (blk_new w _) nd) 0 _ rfl) 1 _ rfl) 2 _ rfl) 3 _ rfl
  have hbb : Below w.heap.size w W := by
    rw [hW]
    exact ((((pw_below_drewN (below_alloc (Below.refl _ _) _) nd).setCell (p := ⟨w.heap.size, 0, none⟩) (Nat.le_refl _) _).setCell (p := ⟨w.heap.size, 1, none⟩) (Nat.le_refl _) _).setCell (p := ⟨w.heap.size, 2, none⟩) (Nat.le_refl _) _).setCell (p := ⟨w.heap.size, 3, none⟩) (Nat.le_refl _) _
  clear hW
  have h0 : W.cell? ⟨w.heap.size, 0, none⟩ = some (.int .u8 (n / 16777216 % 256)) := (blk_cell hB 0).trans rfl
  have h1 : W.cell? ⟨w.heap.size, 1, none⟩ = some (.int .u8 (n / 65536 % 256)) := (blk_cell hB 1).trans rfl
  have h2 : W.cell? ⟨w.heap.size, 2, none⟩ = some (.int .u8 (n / 256 % 256)) := (blk_cell hB 2).trans rfl
  have h3 : W.cell? ⟨w.heap.size, 3, none⟩ = some (.int .u8 (n % 256)) := (blk_cell hB 3).trans rfl
  refine bodyPost_ret (v := .agg (fourA n)) ?_ rfl ⟨rfl, hbb⟩
  simp [results, Try.results37, go_sem, h0, h1, h2, h3]

theorem four_C {w : World} {g : Nat} {n : Int} (h : w.heap[g]? = some (.cells (fourA n) 68 (0, 0))) : (Kd.int .u8).C w (some ⟨g, 0, none⟩) 4 (four_ n) := by
  refine Kd.C_of_reads (d := (0 : Int)) (h1 := fun _ => rfl) ⟨rfl, by omega, fun _ => ⟨_, rfl, fun j hj => ?_⟩⟩
  have e : (⟨g, 0, none⟩ : Addr).add j = ⟨g, j, none⟩ := by simp [Addr.add]; exact fun h => h.symm
  rw [e, blk_cell h j]
  match j, hj with
  | 0, _ => rfl
  | 1, _ => rfl
  | 2, _ => rfl
  | 3, _ => rfl
def codec_Seal.f (a0 : Int) (l1 : List Int) : Option (List Int) :=
  if a0 < 0 then some [] else if a0 > 255 then some [] else
  (codec_PutInt.f 20 (l1.length : Int)).bind fun t => if 1 + t.length + l1.length < 140737488355000 ∧ t.length < 100 then
    (codec_Sum.f (20 * l1.length + 300) ([a0 % 256] ++ t ++ l1)).bind fun n => some ([a0 % 256] ++ t ++ l1 ++ four_ n) else none
set_option maxHeartbeats 8000000 in
set_option maxRecDepth 100000 in
theorem codec_Seal.calls (a0 : Int) (A1 : Option Addr) (c1 : Nat) (l1 : List Int) (r : List Int) (w : World) (hr1 : Kd.C (Kd.int .u8) w A1 l1.length l1) (hc1 : l1.length ≤ c1) (h : codec_Seal.f a0 l1 = some r) :
    Calls Try.prog 24 #[.int .i64 a0, .slice A1 l1.length c1] w fun e w' => ∃ v0_ : Value, e = .returned (v0_) ∧ Kd.R (Kd.int .u8) 5 w' w.heap.size (fun _ => True) v0_ r ∧ Below w.heap.size w w' := by
  have HR1 := Aside0.mk hr1
  have HC1 := Aside0.mk hc1
  clear hr1 hc1
  have HB := Aside0.mk (Below.refl w.heap.size w)
  have H := h
  clear h
  unfold codec_Seal.f at H
  by_cases k1 : a0 < 0
  · rw [if_pos k1] at H
    have k1b : decide (a0 < 0) = true := decide_eq_true k1
    clear k1
    obtain rfl := Option.some.inj H
    go_enter Try.func24, Try.ntmps24
    go_wp2
    go_ret
    exact ⟨_, rfl, Kd.R_nil _ _ _ _ _, HB.out⟩
  rw [if_neg k1] at H
  have k1b : decide (a0 < 0) = false := decide_eq_false k1
  clear k1
  by_cases k2 : a0 > 255
  · rw [if_pos k2] at H
    have k2b : decide (255 < a0) = true := decide_eq_true k2
    clear k2
    obtain rfl := Option.some.inj H
    go_enter Try.func24, Try.ntmps24
    go_wp2
    go_ret
    exact ⟨_, rfl, Kd.R_nil _ _ _ _ _, HB.out⟩
  rw [if_neg k2] at H
  have k2b : decide (255 < a0) = false := decide_eq_false k2
  clear k2
  obtain ⟨t241, A60, H⟩ := Option.bind_eq_some_iff.mp H
  have A6 := Aside0.mk A60
  clear A60
  by_cases k3 : 1 + t241.length + l1.length < 140737488355000 ∧ t241.length < 100
  · rw [if_pos k3] at H
    obtain ⟨y238, hy1⟩ : ∃ y_ : List Int, y_ = [a0 % 256] := ⟨_, rfl⟩
    obtain ⟨y244, hy2⟩ : ∃ y_ : List Int, y_ = y238 ++ t241 := ⟨_, rfl⟩
    obtain ⟨y247, hy3⟩ : ∃ y_ : List Int, y_ = y244 ++ l1 := ⟨_, rfl⟩
    have e3 : [a0 % 256] ++ t241 ++ l1 = y247 := by rw [hy3, hy2, hy1]
    rw [e3] at H
    obtain ⟨t250, A90, H⟩ := Option.bind_eq_some_iff.mp H
    have A9 := Aside0.mk A90
    clear A90 e3
    obtain ⟨y254, hy4⟩ : ∃ y_ : List Int, y_ = y247 ++ four_ t250 := ⟨_, rfl⟩
    rw [← hy4] at H
    obtain rfl := Option.some.inj H
    have z1 : y238.length = 1 := by rw [hy1]; rfl
    have z2 : y244.length = 1 + t241.length := by rw [hy2, List.length_append, z1]
    have z3 : y247.length = 1 + t241.length + l1.length := by rw [hy3, List.length_append, z2]
    have LMc7 : Aside0 (y238.length + t241.length < 140737488355328) := ⟨by omega⟩
    have LMc8 : Aside0 (y244.length + l1.length < 140737488355328) := ⟨by omega⟩
    have LMc11 : Aside0 (y247.length + 4 < 140737488355328) := ⟨by omega⟩
    have Ny238 := Aside0.mk hy1
    have Ny244 := Aside0.mk hy2
    have Ny247 := Aside0.mk hy3
    have Ny254 := Aside0.mk hy4
    clear hy1 hy2 hy3 hy4 z1 z2 z3 k3 H
    go_enter Try.func24, Try.ntmps24
    go_wp2_with (first | ((with_reducible refine gate_dst (N := 15) rfl ?_); refine Kd.R_lit (Kd.int .u8) _ 5 ?hg (N := 15) ?hd (xs := ([(a0) % 256] : List Int)) (inner := [.int .u8 ((a0) % 256)]) (ok := fun _ => True) (okp := fun _ => True) ?hr ?hp (fun _ hk => hk) trivial (Below.refl _ _) (Nat.le_refl _) (by simp) ?_; (case hd => rfl); (case hg => rfl); (case hr => first | (go_simp; done) | (go_simp; rfl)); (case hp => exact (Reps.one (show Kd.M (Kd.int .u8) _ _ _ ((a0) % 256) [.int .u8 ((a0) % 256)] from rfl) (Reps.none _ _))); intro v239 w12 ho13 hb hg_ hnew_; clear hg_ hnew_; (first | rw [← Ny238.out] at ho13 | (simp only [Int.reduceToNat] at ho13; rw [← Ny238.out] at ho13)); have n0_ := Aside0.mk (Kd.R_lower ho13 (below_size (by repeat (first | (with_reducible first | exact HB.out | apply below_alloc | apply pw_below_drewN | apply below_drew1) | exact HB.out)))); have n1_ := Aside0.mk (below_step (by repeat (first | (with_reducible first | exact HB.out | apply below_alloc | apply pw_below_drewN | apply below_drew1) | exact HB.out)) hb); clear HB; have HO240 := n0_; have HB := n1_; clear n0_ n1_; clear hb ho13) | ((with_reducible refine gate_callee (f := 12) rfl ?_); refine goesL_ (some 18) rfl rfl Try.func12 (by kernel_rfl) rfl #[.int .i64 (l1.length : Int)] rfl (by (try simp only [List.map_toArray, List.map_cons, List.map_nil]); first | done | rfl | (simp only [List.length_drop, List.length_take]; rfl)) ?_; (with_reducible refine (codec_PutInt.calls 20 (l1.length : Int) t241 _ A6.out).mono ?_); rintro e w14 ⟨v242, rfl, ho0, hb⟩; refine ⟨_, rfl, ?_⟩; have n0_ := Aside0.mk (Kd.R_elder' (by (with_reducible repeat (first | apply Kd.R_alloc | apply Kd.R_drewN | apply Kd.R_drew)); exact HO240.out) (Kd.R_base ho0) hb); have n1_ := Aside0.mk (Kd.R_lower (Kd.R_new' ho0 (Kd.R_lt (by (with_reducible repeat (first | apply Kd.R_alloc | apply Kd.R_drewN | apply Kd.R_drew)); exact HO240.out))) (below_size (by repeat (first | (with_reducible first | exact HB.out | apply below_alloc | apply pw_below_drewN | apply below_drew1) | exact HB.out)))); have n2_ := Aside0.mk (below_step (by repeat (first | (with_reducible first | exact HB.out | apply below_alloc | apply pw_below_drewN | apply below_drew1) | exact HB.out)) hb); clear HO240; clear HB; have HO240 := n0_; have HO243 := n1_; have HB := n2_; clear n0_ n1_ n2_; (try clear hb); (try clear hb2); (try clear hk); (try clear hi); (try clear ho0); obtain ⟨Ao16, co16, eo16⟩ := Kd.R_slice HO243.out; subst eo16) | ((with_reducible refine gate_builtin (b := .append) (xs := #[.tmp 15, .tmp 18]) rfl ?_); at_builtin; refine Kd.R_append_rows (Kd.int .u8) (w0 := w) w.heap.size rfl (.tmp 15) (.tmp 18) 22 5 (.int .u8 0) 1 rfl Try.underlying22 info5 rfl (by decide) (by omega) v239 y238 t241 _ _ _ (fun k_ => some k_ ≠ (.slice Ao16 t241.length co16 : Value).ownBlock) (fun _ => False) rfl rfl ?aO ?aR (fun _ _ h => h) (fun _ h => h.elim) ?aF ?aB ?aS ?aL ?_; (case aR => repeat (first | exact (Kd.R_reads' HO243.out).2.2 | (with_reducible refine Kd.C_alloc ?_ _) | (with_reducible refine Kd.C_drewN ?_ _) | (with_reducible refine Kd.C_drew ?_))); (case aB => exact (by repeat (first | (with_reducible first | exact HB.out | apply below_alloc | apply pw_below_drewN | apply below_drew1) | exact HB.out))); (case aF => exact (fun k_ hk => Kd.fresh' (Kd.R_lt (by (with_reducible repeat (first | apply Kd.R_alloc | apply Kd.R_drewN | apply Kd.R_drew)); exact HO243.out)) k_ hk)); (case aO => exact (by (with_reducible repeat (first | apply Kd.R_alloc | apply Kd.R_drewN | apply Kd.R_drew)); exact Kd.R_mono HO240.out (fun _ hk => hk.2))); (case aS => exact (below_size (by repeat (first | (with_reducible first | exact HB.out | apply below_alloc | apply pw_below_drewN | apply below_drew1) | exact HB.out)))); (case aL => have := LMc7.out; omega); intro v245 w15 ho hb hg hat; rw [← Ny244.out] at ho; have n0_ := Aside0.mk (Kd.R_after (ok := (fun _ => True)) (by (with_reducible repeat (first | apply Kd.R_alloc | apply Kd.R_drewN | apply Kd.R_drew)); exact HO243.out) hg hat); have n1_ := Aside0.mk (hb); have n2_ := Aside0.mk (ho); clear HO243; clear HB; clear HO240; have HO243 := n0_; have HB := n1_; have HO246 := n2_; clear n0_ n1_ n2_; clear ho hb hg hat) | ((with_reducible refine gate_builtin (b := .append) (xs := #[.tmp 20, .tmp 21]) rfl ?_); at_builtin; refine Kd.R_append_rows (Kd.int .u8) (w0 := w) w.heap.size rfl (.tmp 20) (.tmp 21) 22 5 (.int .u8 0) 1 rfl Try.underlying22 info5 rfl (by decide) (by omega) v245 y244 l1 _ _ _ (fun k_ => some k_ ≠ (.slice Ao16 t241.length co16 : Value).ownBlock) (fun _ => False) rfl rfl ?aO ?aR (fun _ _ h => h) (fun _ h => h.elim) ?aF ?aB ?aS ?aL ?_; (case aR => repeat (first | exact (Kd.C_below HR1.out HB.out) | (with_reducible refine Kd.C_alloc ?_ _) | (with_reducible refine Kd.C_drewN ?_ _) | (with_reducible refine Kd.C_drew ?_))); (case aB => exact (by repeat (first | (with_reducible first | exact HB.out | apply below_alloc | apply pw_below_drewN | apply below_drew1) | exact HB.out))); (case aF => exact (fun k_ hk => Kd.fresh' (Kd.R_lt (by (with_reducible repeat (first | apply Kd.R_alloc | apply Kd.R_drewN | apply Kd.R_drew)); exact HO243.out)) k_ hk)); (case aO => exact (by (with_reducible repeat (first | apply Kd.R_alloc | apply Kd.R_drewN | apply Kd.R_drew)); exact HO246.out)); (case aS => exact (below_size (by repeat (first | (with_reducible first | exact HB.out | apply below_alloc | apply pw_below_drewN | apply below_drew1) | exact HB.out)))); (case aL => have := LMc8.out; omega); intro v248 w17 ho hb hg hat; rw [← Ny247.out] at ho; have n0_ := Aside0.mk (Kd.R_after (ok := (fun _ => True)) (by (with_reducible repeat (first | apply Kd.R_alloc | apply Kd.R_drewN | apply Kd.R_drew)); exact HO243.out) hg hat); have n1_ := Aside0.mk (hb); have n2_ := Aside0.mk (ho); clear HO243; clear HB; clear HO246; have HO243 := n0_; have HB := n1_; have HO249 := n2_; clear n0_ n1_ n2_; clear ho hb hg hat; obtain ⟨Ao18, co18, eo18⟩ := Kd.R_slice HO249.out; subst eo18) | (go_at_call 37; refine (codec_sealed.calls (20 * l1.length + 300) Ao18 co18 y247 t250 _ ?side1 ?side2 A9.out).mono ?_; (case side1 => exact (Kd.R_reads' HO249.out).2.2); (case side2 => exact (Kd.R_reads' HO249.out).2.1); rintro e w18 ⟨rfl, hb⟩; have n1_ := Aside0.mk (Kd.R_below HO249.out hb); have n2_ := Aside0.mk (below_step HB.out hb); clear HB; clear HO243; clear HO249; have HO249 := n1_; have HB := n2_; clear n1_ n2_; clear hb) | ((with_reducible refine gate_builtin (b := .append) (xs := #[.tmp 25, .tmp 26]) rfl ?_); at_builtin; go_must (refine Kd.R_append_rows (Kd.int .u8) (w0 := w) w.heap.size rfl (.tmp 25) (.tmp 26) 22 5 (.int .u8 0) 1 rfl Try.underlying22 info5 rfl (by decide) (by omega) (.slice Ao18 y247.length co18) y247 (four_ t250) (some ⟨w18.heap.size, 0, none⟩) 4 4 (fun _ => True) (fun _ => False) rfl rfl ?aO ?aR (fun _ _ h => h) (fun _ h => h.elim) (fun _ _ => trivial) ?aB ?aS ?aL ?_; (case aR => exact four_C (blk_new w18 _)); (case aB => exact below_alloc HB.out _); (case aO => exact Kd.R_alloc (Kd.R_mono HO249.out (fun _ _ => trivial)) _); (case aS => exact below_size (below_alloc HB.out _)); (case aL => have := LMc11.out; omega); intro v255 w20 ho hb hg hat; rw [← Ny254.out] at ho; have n2_ := Aside0.mk (hb); have n3_ := Aside0.mk (ho); clear HB; clear HO249; have HB := n2_; have HO249 := n3_; clear n2_ n3_; clear ho hb hg hat)))
    go_ret
    exact ⟨_, rfl, HO249.out, HB.out⟩
  · rw [if_neg k3] at H
    exact absurd H (by simp)
end Go.Proofs.Ytdgdabgbdephnaa.Q
