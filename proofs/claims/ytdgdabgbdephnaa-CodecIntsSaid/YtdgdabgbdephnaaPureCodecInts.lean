/- The law CodecInts in plain Lean: what PutInt writes is read again, whatever follows, and no proper front part of it is read. No conditions. -/
import Derived.Test.YtdgdabgbdephnaaSayCodecInts
import Derived.Test.YtdgdabgbdephnaaLemA
import Derived.Test.YtdgdabgbdephnaaLem4
namespace Go.Proofs.Ytdgdabgbdephnaa.Pure
open Go.RowKit Go.Proofs.Ytdgdabgbdephnaa.Q Go.Proofs.YtdgdabgbdephnaaW.PrintWords Go.Proofs.YtdgdabgbdephnaaW.PrintLast

theorem ints_loop {n : Int} (h : okI n) : ∀ (m i : Nat), i + m = (E (zig n)).length → Ev (fun k => jobshelllaw03_CodecInts.l0 k (ints (E (zig n))) (i : Int)) true
  | m, i, hm => by
    have hl := E_len10 (zig_lt h)
    refine Ev.step (fun k => by rw [jobshelllaw03_CodecInts.l0, ints_len]) ?_
    match m with
    | 0 => exact Ev.congr (fun k => if_neg (by omega)) awake_some
    | m + 1 =>
      refine ev_if (by omega) (ev_if (by omega) (ev_if (by omega) ?_))
      rw [Int.toNat_natCast, ints_take]
      refine ev_given (cTake_eq (bytes_take E_bytes i) (by rw [List.length_take]; omega)) ?_
      rw [TI_E_pre h (by omega)]
      refine ev_if rfl (ev_if rfl (ev_if rfl ?_))
      rw [w64n (n := 100) (by omega) (by omega)]
      exact ints_loop h m (i + 1) (by omega)

theorem CodecInts : CodecIntsPure := by
  intro a0 l1 h0 hl
  obtain ⟨l, rfl, hb⟩ := ints_of hl.1
  have h := okI_of h0
  have hE := E_len10 (zig_lt h)
  refine Ev.rounds ?_
  unfold jobshelllaw03_CodecInts.f
  rw [ints_len]
  by_cases c : (l.length : Int) > 40
  · exact Ev.congr (fun k => if_pos c) awake_some
  refine Ev.congr (fun k => if_neg c) (Ev.bind (cPut_ev h) ?_)
  refine ev_some (ev_if (by rw [ints_len, List.length_nil]; omega) (ev_some (ev_if (by rw [List.nil_append, ints_len]; omega) ?_)))
  rw [List.nil_append, ← ints_app]
  refine ev_given (cTake_eq (bytes_app E_bytes hb) (by rw [List.length_append]; omega)) ?_
  rw [TI_E h]
  refine Ev.bind (rPut_ev h) (ev_given (same_self _) (ev_if rfl (ev_if rfl (ev_if (by rw [ints_len]) ?_))))
  exact Ev.step (f := fun k => jobshelllaw03_CodecInts.l0 k (ints (E (zig a0))) 0) (fun k => by rw [jobshelllaw03_CodecInts.j0]; exact if_neg (show ¬ (((0 : Int) != 0) = true) by decide)) (ints_loop h _ 0 (Nat.zero_add _))

end Go.Proofs.Ytdgdabgbdephnaa.Pure
