/- The law CodecOpens in plain Lean: both programs open every list of bytes alike. No conditions. -/
import Derived.Test.YtdgdabgbdephnaaSayCodecOpens
import Derived.Test.YtdgdabgbdephnaaLemA
import Derived.Test.YtdgdabgbdephnaaLem9
namespace Go.Proofs.Ytdgdabgbdephnaa.Pure
open Go.RowKit Go.Proofs.Ytdgdabgbdephnaa.Q Go.Proofs.YtdgdabgbdephnaaW.PrintWords Go.Proofs.YtdgdabgbdephnaaW.PrintLast

theorem opens_j2 {l : List Nat} (hb : ∀ b ∈ l, b < 256) (hl : l.length ≤ 200) : Ev (fun k => jobshelllaw03_CodecOpens.j2 k (ints l)) true := by
  refine Ev.step (fun k => by rw [jobshelllaw03_CodecOpens.j2]) ?_
  exact ev_given (cOpen_eq hb (by omega)) (Ev.bind (rOpen_ev hb (by omega)) (ev_if rfl (ev_given (same_self _) (ev_if rfl (ev_if rfl (ev_if rfl awake_some))))))
theorem ints_set' (l : List Nat) (i x : Nat) : (ints l).set i (x : Int) = ints (l.set i x) := by
  unfold ints
  rw [List.map_set]
theorem opens_l0 (s : Int) : ∀ (m i : Nat), i + m = 4 → ∀ (l : List Nat), (∀ b ∈ l, b < 256) → l.length ≤ 200 → 4 ≤ l.length → Ev (fun k => jobshelllaw03_CodecOpens.l0 k (ints l) s (i : Int)) true
  | 0, i, hm, l, hb, hl, h4 => Ev.step (fun k => by rw [jobshelllaw03_CodecOpens.l0]) (ev_else (by omega) (opens_j2 hb hl))
  | m + 1, i, hm, l, hb, hl, h4 => by
    have a1 : wrap64 (8 * (i : Int)) = 8 * (i : Int) := w64 (by omega) (by omega)
    have a2 : IntKind.u64.wrap (8 * (i : Int)) = 8 * (i : Int) := by rw [IntKind.wrap_u64]; omega
    have a3 : wrap64 ((l.length : Int) - 1) = (l.length : Int) - 1 := w64 (by omega) (by omega)
    have a4 : wrap64 ((l.length : Int) - 1 - (i : Int)) = ((l.length - 1 - i : Nat) : Int) := by
      rw [w64 (by omega) (by omega)]
      omega
    have b1 : (0 : Int) ≤ 8 * (i : Int) := by omega
    have b2 : (0 : Int) ≤ ((l.length - 1 - i : Nat) : Int) := by omega
    have b3 : ((l.length - 1 - i : Nat) : Int) < (l.length : Int) := by omega
    have b4 : (i : Int) < 4 := by omega
    obtain ⟨v, hv⟩ : ∃ v : Nat, (shr .i64 s (8 * (i : Int))) % 256 = (v : Int) ∧ v < 256 := by
      refine ⟨((shr .i64 s (8 * (i : Int))) % 256).toNat, ?_, ?_⟩ <;> omega
    refine Ev.step (fun k => by rw [jobshelllaw03_CodecOpens.l0, ints_len, a1, a2, a3, a4, Int.toNat_natCast, hv.1, ints_set', w64n (n := 4) (by omega) (by omega)]) ?_
    refine ev_if b4 (ev_if b1 (ev_if b2 (ev_if b3 ?_)))
    exact opens_l0 s m (i + 1) (by omega) _ (fun b h => by
      rcases List.mem_or_eq_of_mem_set h with h | rfl
      · exact hb b h
      · exact hv.2) (by rw [List.length_set]; exact hl) (by rw [List.length_set]; exact h4)

theorem CodecOpens : CodecOpensPure := by
  intro l0 a1 hl
  obtain ⟨l, rfl, hb⟩ := ints_of hl.1
  refine Ev.rounds ?_
  unfold jobshelllaw03_CodecOpens.f
  rw [ints_len]
  by_cases c : (l.length : Int) > 200
  · exact ev_if c awake_some
  refine ev_else c (ev_some (ev_if (by rw [List.length_nil]; omega) (ev_some ?_)))
  rw [List.nil_append, ints_len]
  have hF : Ev (fun k => jobshelllaw03_CodecOpens.j0 k (ints l) false) true := Ev.step (fun k => by rw [jobshelllaw03_CodecOpens.j0, if_neg (by decide)]) (opens_j2 hb (by omega))
  cases a1 with
  | false => exact ev_else (by decide) hF
  | true =>
    refine ev_if rfl ?_
    by_cases c4 : (l.length : Int) ≥ 4
    · rw [decide_eq_true c4]
      have a4 : wrap64 ((l.length : Int) - 4) = ((l.length - 4 : Nat) : Int) := by
        rw [w64 (by omega) (by omega)]
        omega
      refine Ev.step (fun k => by rw [jobshelllaw03_CodecOpens.j0, if_pos rfl, ints_len, a4, Int.toNat_natCast, ints_take]) ?_
      clear a4
      refine ev_if (by omega) (ev_if (by omega) (Ev.bind (rSum_ev _ (bytes_take hb _) (by rw [List.length_take]; omega)) ?_))
      exact opens_l0 _ 4 0 (by omega) l hb (by omega) (by omega)
    · rw [decide_eq_false c4]
      exact hF

end Go.Proofs.Ytdgdabgbdephnaa.Pure
