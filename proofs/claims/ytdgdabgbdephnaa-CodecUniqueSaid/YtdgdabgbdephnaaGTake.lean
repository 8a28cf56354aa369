/- The contracts of codec.TakeInt and codec.TakeText, by hand: the decoder's panic is caught by the deferred function. Conditions: those written at each. -/
import Derived.Test.YtdgdabgbdephnaaGDec
import Derived.Recover
set_option linter.unusedVariables false
set_option linter.unusedSimpArgs false
namespace Go.Proofs.Ytdgdabgbdephnaa.Q
open Go.RowKit Go.Proofs.YtdgdabgbdephnaaW.PrintWords Go.Proofs.YtdgdabgbdephnaaW.PrintLast Go.Proofs.YtdgdabgbdephnaaW.PrintMore

abbrev faultV (x : Int) : Value := .iface 71 (.agg #[.int .i64 x])
theorem hta_ (x : Int) (w : World) : (Instr.typeAssert (faultV x) 20 71 true).run Try.prog w = .ok (.tuple #[.agg #[.int .i64 x], .bool true]) w := by kernel_rfl
set_option maxHeartbeats 4000000 in
set_option maxRecDepth 100000 in
theorem caught_panicking (ge : Nat) (v0 x : Int) (w : World) (hc : w.heap[ge]? = some (.cells #[.int .i64 v0] 25 (0, 0))) :
    CallsD Try.prog 33 #[.pointer (some ⟨ge, 0, none⟩)] (.panicking [{ v := faultV x, recovered := false }]) w fun e u' w' =>
      e = .returned (.tuple #[]) ∧ u' = .panicking [{ v := faultV x, recovered := true }] ∧ w'.heap[ge]? = some (.cells #[.int .i64 x] 25 (0, 0)) ∧ Below ge w w' := by
  have hc2 := blk_alloc hc (.cells #[.int .i64 x] 71)
  have hfz := blk_frozen hc2 0
  have hx0 : (w.alloc (.cells #[.int .i64 x] 71)).cell? ⟨ge, 0, none⟩ = some (.int .i64 v0) := (blk_cell hc2 0).trans rfl
  refine callsD_of_wpS Try.func33 rfl fun c₀ cs hu => ?_
  apply wpS_seq
  apply wpS_region
  simp [wpOpsS, go_sem, recoverD, hu, Try.ntmps33, Exit.thenS]
  refine wpS_of_wp ?_
  have hA : (#[Value.pointer (some ⟨ge, 0, none⟩)] ++ (Array.replicate 14 undef).setIfInBounds 4 (faultV x)) = #[Value.pointer (some ⟨ge, 0, none⟩), undef, undef, undef, undef, faultV x, undef, undef, undef, undef, undef, undef, undef, undef, undef] := by rfl
  rw [hA]
  clear hA
  generalize hQ : (fun (e : Exit) (a' : Act) (w' : World) => bodyPostS Try.prog Try.f33 _ _ _ e a' _ w') = Q
  have hta := hta_ x w
  go_wp2
  rw [← hQ]
  exact ⟨rfl, _, rfl, _, results_none rfl _ _ _, rfl, rfl, blk_put hc2 0 _ rfl, ((Below.refl ge w).alloc (Nat.le_of_lt (blk_lt hc)) _).setCell (Nat.le_refl _) _⟩

theorem caught_idle (p : Addr) (w : World) :
    CallsD Try.prog 33 #[.pointer (some p)] .returning w fun e u' w' => e = .returned (.tuple #[]) ∧ u' = .returning ∧ w' = w := by
  refine callsD_of_wpS Try.func33 rfl fun c₀ cs hu => ?_
  apply wpS_seq
  apply wpS_region
  simp [wpOpsS, go_sem, recoverD, hu, Try.ntmps33, Exit.thenS]
  refine wpS_of_wp ?_
  have hA : (#[Value.pointer (some p)] ++ (Array.replicate 14 undef).setIfInBounds 4 Value.nilIface) = #[Value.pointer (some p), undef, undef, undef, undef, Value.nilIface, undef, undef, undef, undef, undef, undef, undef, undef, undef] := by rfl
  rw [hA]
  clear hA
  generalize hQ : (fun (e : Exit) (a' : Act) (w' : World) => bodyPostS Try.prog Try.f33 _ _ _ e a' _ w') = Q
  go_wp2
  rw [← hQ]
  exact ⟨rfl, .returning, by rw [← hu], _, results_none rfl _ _ _, rfl, rfl, rfl⟩

/-! ### TakeInt -/
def codec_TakeInt.f (l : List Int) : Option (Int × Int × Int) :=
  (decI l 0).bind fun r => match r with
    | .ok x => some (x.1, x.2, 0)
    | .error e => some (0, 0, e)
set_option maxHeartbeats 4000000 in
set_option maxRecDepth 100000 in
theorem codec_TakeInt.calls (A0 : Option Addr) (c0 : Nat) (l0 : List Int) (r1 : Int) (r2 : Int) (r3 : Int) (w : World) (hr0 : Kd.C (Kd.int .u8) w A0 l0.length l0) (hc0 : l0.length ≤ c0) (h : codec_TakeInt.f l0 = some (r1, r2, r3)) :
    Calls Try.prog 13 #[.slice A0 l0.length c0] w fun e w' => e = .returned (.tuple #[.int .i64 r1, .int .i64 r2, .int .i64 r3]) ∧ Below w.heap.size w w' := by
  have H := h
  unfold codec_TakeInt.f at H
  obtain ⟨r, A1, H⟩ := Option.bind_eq_some_iff.mp H
  have A1 := Aside0.mk A1
  have HC := Aside0.mk hr0
  have Hc := Aside0.mk hc0
  clear h hr0 hc0
  obtain ⟨W, hW⟩ : ∃ W, W = (w.alloc (.cells #[.int .i64 0] 25)).alloc (decBlk A0 l0.length c0 0) := ⟨_, rfl⟩
  have hsz : (w.alloc (.cells #[.int .i64 0] 25)).heap.size = w.heap.size + 1 := by show (w.heap.push _).size = _; exact Array.size_push _
  have hBE : W.heap[w.heap.size]? = some (.cells #[.int .i64 0] 25 (0, 0)) := by rw [hW]; exact blk_alloc (blk_new w _) _
  have hBD : W.heap[w.heap.size + 1]? = some (decBlk A0 l0.length c0 0) := by rw [hW, ← hsz]; exact blk_new _ _
  have hBW : Below w.heap.size w W := by rw [hW]; exact below_alloc (below_alloc (Below.refl _ _) _) _
  go_enter_defers Try.func13, Try.ntmps13
  cases r with
  | error x =>
    simp only [Option.some.injEq, Prod.mk.injEq] at H
    obtain ⟨rfl, rfl, rfl⟩ := H
    go_wp2_with (go_at_call 34; rw [← hW]; refine (codec_decoder_int.calls w A0 c0 (w.heap.size + 1) l0 0 (.error x) W HC.out Hc.out hBW (by omega) hBD A1.out).mono ?_; rintro e w' ⟨⟨q, hq⟩, rfl, ⟨hb, _⟩⟩)
    have hbe := (hb.block w.heap.size (by omega)).trans hBE
    refine leaves_cons (f := 33) (args := #[.pointer (some ⟨w.heap.size, 0, none⟩)]) (by simp) (by simp [go_sem]) ?_
    refine (caught_panicking w.heap.size 0 x w' hbe).mono ?_
    rintro e u' w'' ⟨rfl, rfl, hq2, hb2⟩
    have hx0 : w''.cell? ⟨w.heap.size, 0, none⟩ = some (.int .i64 x) := (blk_cell hq2 0).trans rfl
    have hbb : Below w.heap.size w w'' := hBW.trans ((hb.mono (by omega)).trans hb2)
    simp [Leaves, settle, results, Try.results13, go_sem, hx0]
    exact hbb
  | ok x =>
    simp only [Option.some.injEq, Prod.mk.injEq] at H
    obtain ⟨n, q⟩ := x
    obtain ⟨rfl, rfl, rfl⟩ := H
    go_wp2_with (go_at_call 34; rw [← hW]; refine (codec_decoder_int.calls w A0 c0 (w.heap.size + 1) l0 0 (.ok (n, q)) W HC.out Hc.out hBW (by omega) hBD A1.out).mono ?_; rintro e w' ⟨rfl, hq, ⟨hb, _⟩⟩)
    have hbe := (hb.block w.heap.size (by omega)).trans hBE
    have hx1 : w'.cell? ⟨w.heap.size + 1, 1, none⟩ = some (.int .i64 q) := (blk_cell hq 1).trans rfl
    have hxe : w'.cell? ⟨w.heap.size, 0, none⟩ = some (.int .i64 0) := (blk_cell hbe 0).trans rfl
    have hfe : w'.frozen? ⟨w.heap.size, 0, none⟩ = false := blk_frozen hbe 0
    go_region
    go_wp2
    obtain ⟨W2, hW2⟩ : ∃ W2, W2 = (w'.setCell ⟨w.heap.size, 0, none⟩ (.int .i64 0)).drew := ⟨_, rfl⟩
    rw [← hW2]
    have hx0 : W2.cell? ⟨w.heap.size, 0, none⟩ = some (.int .i64 0) := by rw [hW2]; exact (blk_cell (blk_drew (blk_put hbe 0 _ rfl)) 0).trans rfl
    have hbb : Below w.heap.size w W2 := by rw [hW2]; exact hBW.trans ((hb.mono (by omega)).trans ((Below.setCell (p := ⟨w.heap.size, 0, none⟩) (Below.refl w.heap.size w') (Nat.le_refl _) _).drew))
    clear hW2
    refine leaves_cons (f := 33) (args := #[.pointer (some ⟨w.heap.size, 0, none⟩)]) (by simp) (by simp [go_sem]) ?_
    refine (caught_idle ⟨w.heap.size, 0, none⟩ W2).mono ?_
    rintro e u' w'' ⟨rfl, rfl, rfl⟩
    simp [Leaves, settle, results, Try.results13, go_sem, hx0]
    exact hbb
/-! ### TakeText -/
def codec_TakeText.f (l : List Int) : Option (ByteArray × Int × Int) :=
  (decText l 0).bind fun r => match r with
    | .ok x => some (x.1, x.2, 0)
    | .error e => some (⟨#[]⟩, 0, e)
set_option maxHeartbeats 4000000 in
set_option maxRecDepth 100000 in
theorem codec_TakeText.calls (A0 : Option Addr) (c0 : Nat) (l0 : List Int) (r1 : ByteArray) (r2 : Int) (r3 : Int) (w : World) (hr0 : Kd.C (Kd.int .u8) w A0 l0.length l0) (hc0 : l0.length ≤ c0) (h : codec_TakeText.f l0 = some (r1, r2, r3)) :
    Calls Try.prog 19 #[.slice A0 l0.length c0] w fun e w' => e = .returned (.tuple #[.string r1, .int .i64 r2, .int .i64 r3]) ∧ Below w.heap.size w w' := by
  have H := h
  unfold codec_TakeText.f at H
  obtain ⟨r, A1, H⟩ := Option.bind_eq_some_iff.mp H
  have A1 := Aside0.mk A1
  have HC := Aside0.mk hr0
  have Hc := Aside0.mk hc0
  clear h hr0 hc0
  obtain ⟨W, hW⟩ : ∃ W, W = (w.alloc (.cells #[.int .i64 0] 25)).alloc (decBlk A0 l0.length c0 0) := ⟨_, rfl⟩
  have hsz : (w.alloc (.cells #[.int .i64 0] 25)).heap.size = w.heap.size + 1 := by show (w.heap.push _).size = _; exact Array.size_push _
  have hBE : W.heap[w.heap.size]? = some (.cells #[.int .i64 0] 25 (0, 0)) := by rw [hW]; exact blk_alloc (blk_new w _) _
  have hBD : W.heap[w.heap.size + 1]? = some (decBlk A0 l0.length c0 0) := by rw [hW, ← hsz]; exact blk_new _ _
  have hBW : Below w.heap.size w W := by rw [hW]; exact below_alloc (below_alloc (Below.refl _ _) _) _
  go_enter_defers Try.func19, Try.ntmps19
  cases r with
  | error x =>
    simp only [Option.some.injEq, Prod.mk.injEq] at H
    obtain ⟨rfl, rfl, rfl⟩ := H
    go_wp2_with (go_at_call 35; rw [← hW]; refine (codec_decoder_text.calls w A0 c0 (w.heap.size + 1) l0 0 (.error x) W HC.out Hc.out hBW (by omega) hBD A1.out).mono ?_; rintro e w' ⟨⟨q, hq⟩, rfl, ⟨hb, _⟩⟩)
    have hbe := (hb.block w.heap.size (by omega)).trans hBE
    refine leaves_cons (f := 33) (args := #[.pointer (some ⟨w.heap.size, 0, none⟩)]) (by simp) (by simp [go_sem]) ?_
    refine (caught_panicking w.heap.size 0 x w' hbe).mono ?_
    rintro e u' w'' ⟨rfl, rfl, hq2, hb2⟩
    have hx0 : w''.cell? ⟨w.heap.size, 0, none⟩ = some (.int .i64 x) := (blk_cell hq2 0).trans rfl
    have hbb : Below w.heap.size w w'' := hBW.trans ((hb.mono (by omega)).trans hb2)
    simp [Leaves, settle, results, Try.results19, go_sem, hx0]
    exact hbb
  | ok x =>
    simp only [Option.some.injEq, Prod.mk.injEq] at H
    obtain ⟨n, q⟩ := x
    obtain ⟨rfl, rfl, rfl⟩ := H
    go_wp2_with (go_at_call 35; rw [← hW]; refine (codec_decoder_text.calls w A0 c0 (w.heap.size + 1) l0 0 (.ok (n, q)) W HC.out Hc.out hBW (by omega) hBD A1.out).mono ?_; rintro e w' ⟨rfl, hq, ⟨hb, _⟩⟩)
    have hbe := (hb.block w.heap.size (by omega)).trans hBE
    have hx1 : w'.cell? ⟨w.heap.size + 1, 1, none⟩ = some (.int .i64 q) := (blk_cell hq 1).trans rfl
    have hxe : w'.cell? ⟨w.heap.size, 0, none⟩ = some (.int .i64 0) := (blk_cell hbe 0).trans rfl
    have hfe : w'.frozen? ⟨w.heap.size, 0, none⟩ = false := blk_frozen hbe 0
    go_region
    go_wp2
    obtain ⟨W2, hW2⟩ : ∃ W2, W2 = (w'.setCell ⟨w.heap.size, 0, none⟩ (.int .i64 0)).drew := ⟨_, rfl⟩
    rw [← hW2]
    have hx0 : W2.cell? ⟨w.heap.size, 0, none⟩ = some (.int .i64 0) := by rw [hW2]; exact (blk_cell (blk_drew (blk_put hbe 0 _ rfl)) 0).trans rfl
    have hbb : Below w.heap.size w W2 := by rw [hW2]; exact hBW.trans ((hb.mono (by omega)).trans ((Below.setCell (p := ⟨w.heap.size, 0, none⟩) (Below.refl w.heap.size w') (Nat.le_refl _) _).drew))
    clear hW2
    refine leaves_cons (f := 33) (args := #[.pointer (some ⟨w.heap.size, 0, none⟩)]) (by simp) (by simp [go_sem]) ?_
    refine (caught_idle ⟨w.heap.size, 0, none⟩ W2).mono ?_
    rintro e u' w'' ⟨rfl, rfl, rfl⟩
    simp [Leaves, settle, results, Try.results19, go_sem, hx0]
    exact hbb
end Go.Proofs.Ytdgdabgbdephnaa.Q
