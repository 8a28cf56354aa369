/- The law CodecFrames in plain Lean: what Seal writes is opened again, whatever follows, and no proper front part of it is. No conditions. -/
import Derived.Test.YtdgdabgbdephnaaSayCodecFrames
import Derived.Test.YtdgdabgbdephnaaLemA
import Derived.Test.YtdgdabgbdephnaaLem8
namespace Go.Proofs.Ytdgdabgbdephnaa.Pure
open Go.RowKit Go.Proofs.Ytdgdabgbdephnaa.Q Go.Proofs.YtdgdabgbdephnaaW.PrintWords Go.Proofs.YtdgdabgbdephnaaW.PrintLast

theorem frames_loop {k0 : Nat} {t : List Nat} (hk0 : k0 < 256) (hb : ∀ b ∈ t, b < 256) (hl : t.length ≤ 100) (hF : (FR k0 t).length ≤ 200) : ∀ (m i : Nat), i + m = (FR k0 t).length → Ev (fun k => jobshelllaw03_CodecFrames.l0 k (ints (FR k0 t)) (i : Int)) true
  | 0, i, hm => Ev.step (fun k => by rw [jobshelllaw03_CodecFrames.l0, ints_len]) (ev_else (by omega) awake_some)
  | m + 1, i, hm => by
    refine Ev.step (fun k => by rw [jobshelllaw03_CodecFrames.l0, ints_len]) ?_
    refine ev_if (by omega) (ev_if (by omega) (ev_if (by omega) ?_))
    rw [Int.toNat_natCast, ints_take]
    refine ev_given (cOpen_eq (bytes_take (FR_bytes hk0 hb) i) (by rw [List.length_take]; omega)) ?_
    rw [OP_pre (by unfold small; omega) (by omega)]
    refine ev_if rfl ?_
    rw [w64n (n := 1000) (by omega) (by omega)]
    exact frames_loop hk0 hb hl hF m (i + 1) (by omega)
theorem seal_nil {a0 : Int} {l : List Int} (h : a0 < 0 ∨ a0 > 255) : codec_Seal.f a0 l = some [] := by
  unfold codec_Seal.f
  by_cases c : a0 < 0
  · rw [if_pos c]
  · rw [if_neg c, if_pos (by omega)]
theorem rseal_nil {a0 : Int} {l : List Int} (h : a0 < 0 ∨ a0 > 255) : Ev (fun k => jobshellref03_Seal.f k a0 l) [] := by
  unfold jobshellref03_Seal.f
  by_cases c : a0 < 0
  · exact ev_if c (Ev.step (f := fun _ => some []) (fun k => by rw [jobshellref03_Seal.j0, if_pos rfl]) ev_const)
  · refine ev_else c ?_
    rw [decide_eq_true (by omega)]
    exact Ev.step (f := fun _ => some []) (fun k => by rw [jobshellref03_Seal.j0, if_pos rfl]) ev_const

theorem CodecFrames : CodecFramesPure := by
  intro a0 l1 l2 h0 h1 h2
  obtain ⟨t, rfl, hb⟩ := ints_of h1.1
  obtain ⟨r, rfl, hr⟩ := ints_of h2.1
  refine Ev.rounds ?_
  unfold jobshelllaw03_CodecFrames.f
  rw [ints_len, ints_len]
  by_cases c : (t.length : Int) > 100
  · exact ev_if c (Ev.step (fun k => by rw [jobshelllaw03_CodecFrames.j0, if_pos rfl]) awake_some)
  refine ev_else c ?_
  by_cases c2 : (r.length : Int) > 40
  · rw [decide_eq_true c2]
    exact Ev.step (fun k => by rw [jobshelllaw03_CodecFrames.j0, if_pos rfl]) awake_some
  rw [decide_eq_false c2]
  refine Ev.step (fun k => by rw [jobshelllaw03_CodecFrames.j0, if_neg (by decide)]) ?_
  have nil : ∀ (h : a0 < 0 ∨ a0 > 255), Ev (fun k => jobshelllaw03_CodecFrames.j1 k a0 (ints t) (ints r) [] true) true := fun h => by
    refine Ev.step (fun k => by rw [jobshelllaw03_CodecFrames.j1, if_pos rfl]) ?_
    exact ev_if (show (([] : List Int).length : Int) = 0 from rfl) awake_some
  by_cases c3 : a0 < 0
  · exact ev_given (seal_nil (Or.inl c3)) (Ev.bind (rseal_nil (Or.inl c3)) (ev_given (same_self _) (ev_if rfl (ev_if c3 (nil (Or.inl c3))))))
  by_cases c4 : a0 > 255
  · refine ev_given (seal_nil (Or.inr c4)) (Ev.bind (rseal_nil (Or.inr c4)) (ev_given (same_self _) (ev_if rfl (ev_else c3 ?_))))
    rw [decide_eq_true c4]
    exact nil (Or.inr c4)
  obtain ⟨k0, rfl⟩ : ∃ n : Nat, a0 = (n : Int) := ⟨a0.toNat, by omega⟩
  have hk0 : k0 < 256 := by omega
  have hF := FB_len (k := k0) (t := t) (by omega)
  have hF2 : (FR k0 t).length ≤ 200 := by unfold FR; rw [List.length_append, show (four (sum (FB k0 t))).length = 4 from rfl]; omega
  refine ev_given (cSeal_eq hk0 hb (by omega)) (Ev.bind (rSeal_ev hk0 hb (by omega)) (ev_given (same_self _) (ev_if rfl (ev_else c3 ?_))))
  rw [decide_eq_false c4]
  refine Ev.step (fun k => by rw [jobshelllaw03_CodecFrames.j1, if_neg (by decide)]) ?_
  refine ev_some (ev_if (by rw [ints_len, List.length_nil]; omega) (ev_some (ev_if (by rw [List.nil_append, ints_len, ints_len]; omega) ?_)))
  rw [List.nil_append, ← ints_app]
  refine ev_given (cOpen_eq (bytes_app (FR_bytes hk0 hb) hr) (by rw [List.length_append]; omega)) ?_
  rw [OP_FR (by unfold small; omega)]
  refine ev_if rfl (ev_given (same_self _) (ev_if rfl (ev_if (by rw [ints_len]; rfl) ?_)))
  exact Ev.step (f := fun k => jobshelllaw03_CodecFrames.l0 k (ints (FR k0 t)) 0) (fun k => by rw [jobshelllaw03_CodecFrames.j2]; exact if_neg (show ¬ (((0 : Int) != 0) = true) by decide)) (frames_loop hk0 hb (by omega) hF2 _ 0 (Nat.zero_add _))

end Go.Proofs.Ytdgdabgbdephnaa.Pure
