/- Plain lemmas for chapter 03: both programs write texts by ET and lists of texts by ETS; what Short says. No conditions beyond those written at each. -/
import Derived.Test.YtdgdabgbdephnaaLem6
import Derived.Test.YtdgdabgbdephnaaQ24
import Derived.Test.YtdgdabgbdephnaaQ25
import Derived.Test.YtdgdabgbdephnaaQ27
import Derived.Test.YtdgdabgbdephnaaQ28
import Derived.Test.YtdgdabgbdephnaaQ29
set_option linter.unusedVariables false
set_option linter.unusedSimpArgs false
namespace Go.Proofs.Ytdgdabgbdephnaa.Pure
open Go.RowKit Go.Proofs.Ytdgdabgbdephnaa.Q Go.Proofs.YtdgdabgbdephnaaW.PrintWords Go.Proofs.YtdgdabgbdephnaaW.PrintLast Go.Proofs.YtdgdabgbdephnaaW.PrintMore

theorem zig_nat (n : Nat) : zig (n : Int) = 2 * n := by
  unfold zig
  rw [if_neg (by omega)]
  omega
theorem okI_nat {n : Nat} (h : n ≤ 1000000000000) : okI (n : Int) := ⟨by omega, by omega⟩
theorem cPutText_ev {s : ByteArray} (h : s.size ≤ 1000000000) : Ev (fun k => codec_PutText.f k s) (ints (ET (nums s))) := by
  unfold codec_PutText.f
  have hl := E_len10 (z := 2 * s.size) (by omega)
  have hp := cPut_ev (okI_nat (n := s.size) (by omega))
  rw [zig_nat] at hp
  refine Ev.bind hp (ev_if (by rw [ints_len]; omega) ?_)
  rw [bytesOf_nums, ← ints_app]
  unfold ET
  rw [nums_len]
  exact ev_const
theorem rPutText_ev {s : ByteArray} (h : s.size ≤ 1000000000) : Ev (fun k => jobshellref03_PutText.f k s) (ints (ET (nums s))) := by
  unfold jobshellref03_PutText.f
  have hl := E_len10 (z := 2 * s.size) (by omega)
  have hp := rPut_ev (okI_nat (n := s.size) (by omega))
  rw [zig_nat] at hp
  refine Ev.bind hp (ev_if (by rw [ints_len]; omega) ?_)
  rw [bytesOf_nums, ← ints_app]
  unfold ET
  rw [nums_len]
  exact ev_const
theorem ET_len {t : List Nat} (h : t.length ≤ 1000000000) : (ET t).length ≤ t.length + 10 := by
  have := E_len10 (z := 2 * t.length) (by omega)
  unfold ET
  rw [List.length_append]
  omega
theorem rdOf_at (l : List ByteArray) (i : Nat) (h : i < l.length) : rdOf ByteArray.empty l (i : Int) = l[i] := by
  unfold rdOf
  rw [Int.toNat_natCast, List.getD_eq_getElem?_getD, List.getElem?_eq_getElem h]
  rfl
theorem ETL_cons (t : List Nat) (ts : List (List Nat)) : ETL (t :: ts) = ET t ++ ETL ts := rfl
theorem drop_cons' {l : List ByteArray} {i : Nat} (h : i < l.length) : l.drop i = l[i] :: l.drop (i + 1) := List.drop_eq_getElem_cons h
theorem cPutTexts_l0 (l : List ByteArray) (hs : ∀ s ∈ l, s.size ≤ 1000000000) (hl : l.length ≤ 1000000000) : ∀ (m i : Nat) (acc : List Nat), i + m = l.length → acc.length + (ETL ((l.drop i).map nums)).length ≤ 100000000000000 →
    Ev (fun k => codec_PutTexts.l0 k (ints acc) l l.length i) (ints (acc ++ ETL ((l.drop i).map nums)))
  | 0, i, acc, hi, hb => by
    refine Ev.step (fun k => by rw [codec_PutTexts.l0]) (ev_else (by omega) ?_)
    rw [List.drop_eq_nil_of_le (by omega)]
    show Ev _ (ints (acc ++ []))
    rw [List.append_nil]
    exact ev_const
  | m + 1, i, acc, hi, hb => by
    have hil : i < l.length := by omega
    rw [drop_cons' hil, List.map_cons, ETL_cons] at hb ⊢
    rw [List.length_append] at hb
    refine Ev.step (fun k => by rw [codec_PutTexts.l0]) (ev_if (by omega) (ev_if (by omega) (ev_if (by omega) ?_)))
    rw [rdOf_at l i hil]
    refine Ev.bind (cPutText_ev (hs _ (List.getElem_mem hil))) (ev_if (by rw [ints_len, ints_len]; omega) ?_)
    rw [← ints_app, w64n (n := l.length) (by omega) (by omega), ← List.append_assoc]
    exact cPutTexts_l0 l hs hl m (i + 1) _ (by omega) (by rw [List.length_append]; omega)
theorem rPutTexts_l0 (l : List ByteArray) (hs : ∀ s ∈ l, s.size ≤ 1000000000) (hl : l.length ≤ 1000000000) : ∀ (m i : Nat) (acc : List Nat), i + m = l.length → acc.length + (ETL ((l.drop i).map nums)).length ≤ 100000000000000 →
    Ev (fun k => jobshellref03_PutTexts.l0 k l (ints acc) i) (ints (acc ++ ETL ((l.drop i).map nums)))
  | 0, i, acc, hi, hb => by
    refine Ev.step (fun k => by rw [jobshellref03_PutTexts.l0]) (ev_else (by omega) ?_)
    rw [List.drop_eq_nil_of_le (by omega)]
    show Ev _ (ints (acc ++ []))
    rw [List.append_nil]
    exact ev_const
  | m + 1, i, acc, hi, hb => by
    have hil : i < l.length := by omega
    rw [drop_cons' hil, List.map_cons, ETL_cons] at hb ⊢
    rw [List.length_append] at hb
    refine Ev.step (fun k => by rw [jobshellref03_PutTexts.l0]) (ev_if (by omega) (ev_if (by omega) ?_))
    rw [rdOf_at l i hil]
    refine Ev.bind (rPutText_ev (hs _ (List.getElem_mem hil))) (ev_if (by rw [ints_len, ints_len]; omega) ?_)
    rw [← ints_app, w64n (n := l.length) (by omega) (by omega), ← List.append_assoc]
    exact rPutTexts_l0 l hs hl m (i + 1) _ (by omega) (by rw [List.length_append]; omega)
theorem cPutTexts_ev {l : List ByteArray} (hs : ∀ s ∈ l, s.size ≤ 1000000000) (hl : l.length ≤ 1000000000) (hb : (ETL (l.map nums)).length ≤ 10000000000000) : Ev (fun k => codec_PutTexts.f k l) (ints (ETS (l.map nums))) := by
  unfold codec_PutTexts.f
  have hp := cPut_ev (okI_nat (n := l.length) (by omega))
  have he := E_len10 (z := 2 * l.length) (by omega)
  rw [zig_nat] at hp
  refine Ev.bind hp ?_
  have h := cPutTexts_l0 l hs hl l.length 0 (E (2 * l.length)) (by omega) (by rw [List.drop_zero]; omega)
  rw [List.drop_zero] at h
  unfold ETS
  rw [List.length_map]
  exact h
theorem rPutTexts_ev {l : List ByteArray} (hs : ∀ s ∈ l, s.size ≤ 1000000000) (hl : l.length ≤ 1000000000) (hb : (ETL (l.map nums)).length ≤ 10000000000000) : Ev (fun k => jobshellref03_PutTexts.f k l) (ints (ETS (l.map nums))) := by
  unfold jobshellref03_PutTexts.f
  have hp := rPut_ev (okI_nat (n := l.length) (by omega))
  have he := E_len10 (z := 2 * l.length) (by omega)
  rw [zig_nat] at hp
  refine Ev.bind hp ?_
  have h := rPutTexts_l0 l hs hl l.length 0 (E (2 * l.length)) (by omega) (by rw [List.drop_zero]; omega)
  rw [List.drop_zero] at h
  unfold ETS
  rw [List.length_map]
  exact h
theorem short_l0 (l : List ByteArray) : ∀ (m i : Nat), i + m = l.length → i ≤ 9 → ∃ b, Ev (fun k => jobshellref03_Short.l0 k l 8 60 i) b ∧ (b = true → l.length ≤ 8 ∧ ∀ j (h : j < l.length), i ≤ j → l[j].size ≤ 60)
  | 0, i, hi, h9 => by
    refine ⟨decide ((l.length : Int) ≤ 8), ?_, fun h => ⟨by have := of_decide_eq_true h; omega, fun j hj hij => absurd hj (by omega)⟩⟩
    exact Ev.step (fun k => by rw [jobshellref03_Short.l0, if_neg (by omega)]) (Ev.step (fun k => by rw [jobshellref03_Short.j1, if_neg (by decide)]) ev_const)
  | m + 1, i, hi, h9 => by
    by_cases c : i ≤ 8
    · by_cases cs : (l[i]'(by omega)).size ≤ 60
      · obtain ⟨b, h1, h2⟩ := short_l0 l m (i + 1) (by omega) (by omega)
        refine ⟨b, ?_, fun h => ⟨(h2 h).1, fun j hj hij => ?_⟩⟩
        · refine Ev.step (fun k => by rw [jobshellref03_Short.l0, if_pos (by omega), decide_eq_true (by omega)]) (Ev.step (f := fun k => jobshellref03_Short.l0 k l 8 60 ((i + 1 : Nat) : Int)) (fun k => ?_) h1)
          rw [jobshellref03_Short.j1, if_pos rfl, if_pos (by omega), if_pos (by omega), rdOf_at l i (by omega), if_neg (by omega), w64n (n := 100) (by omega) (by omega)]
        · by_cases e : i = j
          · subst e
            exact cs
          · exact (h2 h).2 j hj (by omega)
      · refine ⟨false, ?_, fun h => absurd h (by decide)⟩
        refine Ev.step (fun k => by rw [jobshellref03_Short.l0, if_pos (by omega), decide_eq_true (by omega)]) (Ev.step (f := fun _ => some false) (fun k => ?_) ev_const)
        rw [jobshellref03_Short.j1, if_pos rfl, if_pos (by omega), if_pos (by omega), rdOf_at l i (by omega), if_pos (by omega)]
    · refine ⟨decide ((l.length : Int) ≤ 8), ?_, fun h => absurd (of_decide_eq_true h) (by omega)⟩
      refine Ev.step (fun k => by rw [jobshellref03_Short.l0, if_pos (by omega), decide_eq_false (by omega)]) (Ev.step (fun k => by rw [jobshellref03_Short.j1, if_neg (by decide)]) ev_const)
theorem ETL_bound : ∀ (ts : List (List Nat)), (∀ t ∈ ts, t.length ≤ 60) → (ETL ts).length ≤ 70 * ts.length
  | [], _ => Nat.zero_le _
  | t :: ts, h => by
    have h1 := ETL_bound ts (fun x hx => h x (List.mem_cons_of_mem _ hx))
    have h2 := h t List.mem_cons_self
    have h3 := ET_len (t := t) (by omega)
    rw [ETL_cons, List.length_append, List.length_cons]
    omega
theorem map_str_nums (l : List ByteArray) : (l.map nums).map str = l := by
  rw [List.map_map]
  conv => rhs; rw [← List.map_id l]
  exact List.map_congr_left fun s _ => str_nums s
theorem ET_bytes {t : List Nat} (h : ∀ b ∈ t, b < 256) : ∀ b ∈ ET t, b < 256 := bytes_app E_bytes h
theorem ETL_bytes {ts : List (List Nat)} (h : ∀ t ∈ ts, ∀ b ∈ t, b < 256) : ∀ b ∈ ETL ts, b < 256 := fun b hb => by
  obtain ⟨t, ht, hbt⟩ := List.mem_flatMap.1 hb
  exact ET_bytes (h t ht) b hbt
theorem ETS_bytes {ts : List (List Nat)} (h : ∀ t ∈ ts, ∀ b ∈ t, b < 256) : ∀ b ∈ ETS ts, b < 256 := bytes_app E_bytes (ETL_bytes h)
end Go.Proofs.Ytdgdabgbdephnaa.Pure
