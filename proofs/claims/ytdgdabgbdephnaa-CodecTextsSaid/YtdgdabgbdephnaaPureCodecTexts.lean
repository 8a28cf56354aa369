/- The law CodecTexts in plain Lean: what PutText and PutTexts write is read again, whatever follows, and no proper front part of it is read. No conditions. -/
import Derived.Test.YtdgdabgbdephnaaSayCodecTexts
import Derived.Test.YtdgdabgbdephnaaLemA
import Derived.Test.YtdgdabgbdephnaaLem7
namespace Go.Proofs.Ytdgdabgbdephnaa.Pure
open Go.RowKit Go.Proofs.Ytdgdabgbdephnaa.Q Go.Proofs.YtdgdabgbdephnaaW.PrintWords Go.Proofs.YtdgdabgbdephnaaW.PrintLast

theorem texts_l1 (l : List ByteArray) (r : List Nat) (hr : ∀ b ∈ r, b < 256) (hr4 : r.length ≤ 40) (hl : l.length ≤ 8) (hs : ∀ j (h : j < l.length), l[j].size ≤ 60) : ∀ (m i : Nat), i + m = l.length →
    Ev (fun k => jobshelllaw03_CodecTexts.l1 k l (ints r) i) true
  | 0, i, hi => Ev.step (fun k => by rw [jobshelllaw03_CodecTexts.l1]) (ev_else (by omega) awake_some)
  | m + 1, i, hi => by
    have hil : i < l.length := by omega
    have h60 := hs i hil
    have hn := nums_len l[i]
    have hE := ET_len (t := nums l[i]) (by omega)
    refine Ev.step (fun k => by rw [jobshelllaw03_CodecTexts.l1]) (ev_if (by omega) (ev_if (by omega) ?_))
    rw [rdOf_at l i hil]
    refine Ev.bind (cPutText_ev (by omega)) (ev_some (ev_if (by rw [ints_len, List.length_nil]; omega) (ev_some (ev_if (by rw [List.nil_append, ints_len, ints_len]; omega) ?_))))
    rw [List.nil_append, ← ints_app]
    refine ev_given (cText_eq (bytes_app (ET_bytes (nums_byte _)) hr) (by rw [List.length_append]; omega)) (Ev.bind (rPutText_ev (by omega)) (ev_given (same_self _) (ev_if rfl ?_)))
    have e : TT (ET (nums l[i]) ++ r) = (l[i], ((ET (nums l[i])).length : Int), 0) := by
      unfold TT
      rw [TX_ET (by unfold small; omega)]
      simp only [str_nums]
    rw [e]
    refine ev_if rfl (ev_if (by rw [ints_len]) (ev_if rfl ?_))
    rw [w64n (n := 100) (by omega) (by omega)]
    exact texts_l1 l r hr hr4 hl hs m (i + 1) (by omega)
theorem texts_l0 (l : List ByteArray) (r : List Nat) (hr : ∀ b ∈ r, b < 256) (hr4 : r.length ≤ 40) (hl : l.length ≤ 8) (hs : ∀ j (h : j < l.length), l[j].size ≤ 60) (hb : (ETS (l.map nums)).length ≤ 1000) (hsm : ∀ t ∈ l.map nums, small t.length) : ∀ (m i : Nat), i + m = (ETS (l.map nums)).length →
    Ev (fun k => jobshelllaw03_CodecTexts.l0 k l (ints r) (ints (ETS (l.map nums))) i) true
  | 0, i, hi => by
    refine Ev.step (fun k => by rw [jobshelllaw03_CodecTexts.l0, ints_len]) (ev_else (by omega) ?_)
    exact texts_l1 l r hr hr4 hl hs l.length 0 (by omega)
  | m + 1, i, hi => by
    refine Ev.step (fun k => by rw [jobshelllaw03_CodecTexts.l0, ints_len]) (ev_if (by omega) (ev_if (by omega) (ev_if (by omega) ?_)))
    rw [Int.toNat_natCast, ints_take]
    have hby : ∀ b ∈ ETS (l.map nums), b < 256 := ETS_bytes (fun t ht => by
      obtain ⟨s, _, rfl⟩ := List.mem_map.1 ht
      exact nums_byte s)
    refine ev_given (cTexts_eq (bytes_take hby i) (by rw [List.length_take]; omega)) ?_
    have e : TTs ((ETS (l.map nums)).take i) = ([], 0, 28) := by
      unfold TTs
      rw [TTS_pre (by unfold small; rw [List.length_map]; omega) hsm (by omega)]
    rw [e]
    refine ev_if rfl ?_
    rw [w64n (n := 1000) (by omega) (by omega)]
    exact texts_l0 l r hr hr4 hl hs hb hsm m (i + 1) (by omega)

theorem CodecTexts : CodecTextsPure := by
  intro l l1 h0 h1
  obtain ⟨r, rfl, hr⟩ := ints_of h1.1
  refine Ev.rounds ?_
  unfold jobshelllaw03_CodecTexts.f
  obtain ⟨b, hsh, hb⟩ := short_l0 l l.length 0 (by omega) (by omega)
  have hsh' : Ev (fun k => jobshellref03_Short.f k l 8 60) b := hsh
  refine Ev.bind hsh' ?_
  cases b with
  | false => exact ev_else (by decide) (Ev.step (fun k => by rw [jobshelllaw03_CodecTexts.j0, if_pos rfl]) awake_some)
  | true =>
    obtain ⟨hl, hs⟩ := hb rfl
    have hs : ∀ j (h : j < l.length), l[j].size ≤ 60 := fun j h => hs j h (Nat.zero_le _)
    refine ev_if rfl ?_
    rw [ints_len]
    by_cases c : (r.length : Int) > 40
    · rw [decide_eq_true c]
      exact Ev.step (fun k => by rw [jobshelllaw03_CodecTexts.j0, if_pos rfl]) awake_some
    rw [decide_eq_false c]
    refine Ev.step (fun k => by rw [jobshelllaw03_CodecTexts.j0, if_neg (by decide)]) ?_
    have hsz : ∀ s ∈ l, s.size ≤ 60 := fun s h => by
      obtain ⟨j, hj, rfl⟩ := List.getElem_of_mem h
      exact hs j hj
    have ht : ∀ t ∈ l.map nums, t.length ≤ 60 := fun t h => by
      obtain ⟨s, h2, rfl⟩ := List.mem_map.1 h
      rw [nums_len]
      exact hsz s h2
    have hET := ETL_bound (l.map nums) ht
    rw [List.length_map] at hET
    have hE := E_len10 (z := 2 * (l.map nums).length) (by rw [List.length_map]; omega)
    have hL : (ETS (l.map nums)).length ≤ 1000 := by unfold ETS; rw [List.length_append]; omega
    have hsm : ∀ t ∈ l.map nums, small t.length := fun t h => by have := ht t h; unfold small; omega
    have hby : ∀ b ∈ ETS (l.map nums), b < 256 := ETS_bytes (fun t ht => by
      obtain ⟨s, _, rfl⟩ := List.mem_map.1 ht
      exact nums_byte s)
    refine Ev.bind (cPutTexts_ev (fun s h => by have := hsz s h; omega) (by omega) (by omega)) (ev_some (ev_if (by rw [ints_len, List.length_nil]; omega) (ev_some (ev_if (by rw [List.nil_append, ints_len, ints_len]; omega) ?_))))
    rw [List.nil_append, ← ints_app]
    refine ev_given (cTexts_eq (bytes_app hby hr) (by rw [List.length_append]; omega)) (Ev.bind (rPutTexts_ev (fun s h => by have := hsz s h; omega) (by omega) (by omega)) (ev_given (same_self _) (ev_if rfl ?_)))
    have e : TTs (ETS (l.map nums) ++ r) = (l, ((ETS (l.map nums)).length : Int), 0) := by
      unfold TTs
      rw [TTS_ETS (by unfold small; rw [List.length_map]; omega) hsm]
      simp only [map_str_nums]
    rw [e]
    refine Ev.bind (sameTexts_ev l (by omega)) (ev_if rfl (ev_if (by rw [ints_len]) ?_))
    exact Ev.step (f := fun k => jobshelllaw03_CodecTexts.l0 k l (ints r) (ints (ETS (l.map nums))) 0) (fun k => by rw [jobshelllaw03_CodecTexts.j1]; exact if_neg (show ¬ (((0 : Int) != 0) = true) by decide)) (texts_l0 l r hr (by omega) hl hs hL hsm _ 0 (Nat.zero_add _))

end Go.Proofs.Ytdgdabgbdephnaa.Pure
