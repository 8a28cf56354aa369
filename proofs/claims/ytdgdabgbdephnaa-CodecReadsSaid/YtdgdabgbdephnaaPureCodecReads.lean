/- The law CodecReads in plain Lean: both programs read numbers, texts and lists of texts alike. No conditions. -/
import Derived.Test.YtdgdabgbdephnaaSayCodecReads
import Derived.Test.YtdgdabgbdephnaaLemA
import Derived.Test.YtdgdabgbdephnaaLem6
namespace Go.Proofs.Ytdgdabgbdephnaa.Pure
open Go.RowKit Go.Proofs.Ytdgdabgbdephnaa.Q Go.Proofs.YtdgdabgbdephnaaW.PrintWords Go.Proofs.YtdgdabgbdephnaaW.PrintLast

theorem TTs_len {l : List Nat} (hb : ∀ b ∈ l, b < 256) : (TTs l).1.length ≤ l.length := by
  unfold TTs
  cases h : TTS l with
  | error e => exact Nat.zero_le _
  | ok x =>
    have := (TTS_unique hb h).2.1
    simp only [List.length_map]
    exact this

theorem CodecReads : CodecReadsPure := by
  intro l0 hl
  obtain ⟨l, rfl, hb⟩ := ints_of hl.1
  refine Ev.rounds ?_
  unfold jobshelllaw03_CodecReads.f
  rw [ints_len]
  by_cases c : (l.length : Int) > 200
  · exact ev_if c awake_some
  refine ev_else c ?_
  have h1 : l.length ≤ 1000000000000000 := by omega
  have h2 : l.length ≤ 100000000 := by omega
  have rT : Ev (fun k => jobshellref03_TakeText.f k (ints l)) (TT l) := ⟨32, fun k hk => rText_at hb h1 hk⟩
  refine ev_given (cTake_eq hb h1) (Ev.bind (rTake_ev hb) (ev_given (cText_eq hb h1) (Ev.bind rT ?_)))
  refine ev_if rfl (ev_if rfl (ev_if rfl (ev_if rfl (ev_if rfl ?_))))
  refine Ev.step (f := fun k => ((codec_TakeTexts.f (ints l)).bind fun bt223 => ((jobshellref03_TakeTexts.f k (ints l)).bind fun bt228 => ((jobshellref03_SameTexts.f k bt223.1 bt228.1).bind fun t233 => (if t233 = true then (if bt223.2.1 = bt228.2.1 then (if bt223.2.2 = bt228.2.2 then ((jobshelllaw03_awake.f k).bind fun t234 => (some t234)) else (some false)) else (some false)) else (some false)))))) (fun k => ?_) ?_
  · rw [jobshelllaw03_CodecReads.j0, if_neg (by simp)]
  · have hs := TTs_len hb
    exact ev_given (cTexts_eq hb h2) (Ev.bind (rTexts_ev hb h2) (Ev.bind (sameTexts_ev _ (by omega)) (ev_if rfl (ev_if rfl (ev_if rfl awake_some)))))

end Go.Proofs.Ytdgdabgbdephnaa.Pure
