/- The law CodecSpoilt in plain Lean: a frame of which one byte of the payload or of the checksum is changed isn't opened. No conditions. -/
import Derived.Test.YtdgdabgbdephnaaSayCodecSpoilt
import Derived.Test.YtdgdabgbdephnaaLemA
import Derived.Test.YtdgdabgbdephnaaLem8
namespace Go.Proofs.Ytdgdabgbdephnaa.Pure
open Go.RowKit Go.Proofs.Ytdgdabgbdephnaa.Q Go.Proofs.YtdgdabgbdephnaaW.PrintWords Go.Proofs.YtdgdabgbdephnaaW.PrintLast

theorem byte_of' {a : Int} (h : (Lit.int .u8 a).wf = true) : ∃ m : Nat, a = (m : Int) ∧ m < 256 := by
  simp [Lit.wf, IntKind.min, IntKind.max, IntKind.bits, IntKind.signed] at h
  exact ⟨a.toNat, by omega, by omega⟩
theorem ints_set2 (l : List Nat) (i x : Nat) : (ints l).set i (x : Int) = ints (l.set i x) := by
  unfold ints
  rw [List.map_set]
theorem getD_at {l : List Nat} {i : Nat} (h : i < l.length) : l.getD i 0 = l[i] := by
  rw [List.getD_eq_getElem?_getD, List.getElem?_eq_getElem h]
  rfl
theorem xor_ne {a b : Nat} (h : b ≠ 0) : a ^^^ b ≠ a := fun e => h (xor_cancel' (c := a) (e.trans (Nat.xor_zero a).symm))
/-- The spoilt frame. -/
theorem OP_spoilt {k : Nat} {t : List Nat} (hk : k < 256) (hb : ∀ b ∈ t, b < 256) (hn : small t.length) {p by_ : Nat} (hp : p < t.length + 4) (h8 : by_ < 256) (h0 : by_ ≠ 0) :
    OP ((FR k t).set ((FR k t).length - 1 - p) ((FR k t).getD ((FR k t).length - 1 - p) 0 ^^^ by_)) = .error 29 := by
  have hf4 : (four (sum (FB k t))).length = 4 := rfl
  have hlen : (FR k t).length = (E (2 * t.length)).length + t.length + 5 := by
    unfold FR FB
    simp only [List.cons_append, List.length_cons, List.length_append, four, List.length_nil]
  have hx : (FR k t).getD ((FR k t).length - 1 - p) 0 ^^^ by_ < 256 := Nat.xor_lt_two_pow (n := 8) (getD_lt (FR_bytes hk hb) _) (by omega)
  have hE : (k :: E (2 * t.length)).length = (E (2 * t.length)).length + 1 := List.length_cons
  have e : FR k t = (k :: E (2 * t.length)) ++ (t ++ four (sum (FB k t))) := by
    unfold FR FB
    simp
  obtain ⟨i, hi⟩ : ∃ i, (FR k t).length - 1 - p = (k :: E (2 * t.length)).length + i := ⟨(FR k t).length - 1 - p - (k :: E (2 * t.length)).length, by omega⟩
  have hi4 : i < t.length + 4 := by omega
  obtain ⟨x, hxx⟩ : ∃ x, x = (FR k t).getD ((FR k t).length - 1 - p) 0 ^^^ by_ := ⟨_, rfl⟩
  have hg : (FR k t).getD ((FR k t).length - 1 - p) 0 = (t ++ four (sum (FB k t))).getD i 0 := by
    rw [hi, e, List.getD_eq_getElem?_getD, List.getElem?_append_right (by omega), Nat.add_sub_cancel_left, ← List.getD_eq_getElem?_getD]
  rw [← hxx] at hx ⊢
  rw [hg] at hxx
  rw [hi]
  have es : (FR k t).set ((k :: E (2 * t.length)).length + i) x = (k :: E (2 * t.length)) ++ (t ++ four (sum (FB k t))).set i x := by
    rw [e, List.set_append_right _ _ (by omega), Nat.add_sub_cancel_left]
  rw [es]
  by_cases c : i < t.length
  · have e2 : (t ++ four (sum (FB k t))).set i x = t.set i x ++ four (sum (FB k t)) := List.set_append_left _ _ c
    have hxe : x ≠ t[i] := by
      rw [hxx, getD_at (by rw [List.length_append]; omega), List.getElem_append_left c]
      exact xor_ne h0
    rw [e2, List.cons_append, ← List.append_nil (four (sum (FB k t))), OP_form hn (by rw [List.length_set]) rfl]
    refine if_neg fun e4 => ?_
    have hs1 : sum (FB k t) < 4294967296 := sum_lt (FB_bytes hk hb)
    have hb2 : ∀ b ∈ t.set i x, b < 256 := fun b h => by
      rcases List.mem_or_eq_of_mem_set h with h | rfl
      · exact hb b h
      · exact hx
    have hbk : ∀ b ∈ k :: (E (2 * t.length) ++ t.set i x), b < 256 := fun b h => by
      rcases List.mem_cons.1 h with rfl | h
      · exact hk
      · exact bytes_app E_bytes hb2 b h
    have e5 := four_inj (sum_lt hbk) hs1 e4
    have e6 : k :: (E (2 * t.length) ++ t.set i x) = (FB k t).set ((k :: E (2 * t.length)).length + i) x := by
      show _ = ((k :: E (2 * t.length)) ++ t).set _ _
      rw [List.set_append_right _ _ (by omega), Nat.add_sub_cancel_left]
      rfl
    rw [e6] at e5
    have hlt : (k :: E (2 * t.length)).length + i < (FB k t).length := by
      show _ < ((k :: E (2 * t.length)) ++ t).length
      rw [List.length_append]
      omega
    refine sum_set (FB_bytes hk hb) hlt hx ?_ e5
    have e7 : (FB k t)[(k :: E (2 * t.length)).length + i] = t[i] := by
      have e8 : (FB k t).getD ((k :: E (2 * t.length)).length + i) 0 = t[i] := by
        show ((k :: E (2 * t.length)) ++ t).getD _ 0 = _
        rw [List.getD_eq_getElem?_getD, List.getElem?_append_right (Nat.le_add_right _ _), Nat.add_sub_cancel_left, List.getElem?_eq_getElem c]
        rfl
      exact (getD_at hlt).symm.trans e8
    rw [e7]
    exact hxe
  · obtain ⟨j, rfl⟩ : ∃ j, i = t.length + j := ⟨i - t.length, by omega⟩
    have hj : j < (four (sum (FB k t))).length := by omega
    have e2 : (t ++ four (sum (FB k t))).set (t.length + j) x = t ++ (four (sum (FB k t))).set j x := by
      rw [List.set_append_right _ _ (by omega), Nat.add_sub_cancel_left]
    have hxe : x ≠ (four (sum (FB k t)))[j] := by
      rw [hxx, getD_at (by rw [List.length_append]; omega), List.getElem_append_right (by omega)]
      simp only [Nat.add_sub_cancel_left]
      exact xor_ne h0
    rw [e2, List.cons_append, ← List.append_nil ((four (sum (FB k t))).set j x), OP_form hn rfl (by rw [List.length_set]; rfl)]
    refine if_neg fun e4 => hxe ?_
    have e5 : (four (sum (FB k t)))[j]? = ((four (sum (FB k t))).set j x)[j]? := congrArg (·[j]?) e4
    rw [List.getElem?_set_self hj, List.getElem?_eq_getElem hj] at e5
    exact (Option.some.inj e5).symm

theorem CodecSpoilt : CodecSpoiltPure := by
  intro a0 l1 a2 a3 h0 h1 h2 h3
  obtain ⟨k0, rfl, hk0⟩ := byte_of' h0
  obtain ⟨t, rfl, hb⟩ := ints_of h1.1
  obtain ⟨at_, rfl, hat⟩ := byte_of' h2
  obtain ⟨by_, rfl, hby⟩ := byte_of' h3
  refine Ev.rounds ?_
  unfold jobshelllaw03_CodecSpoilt.f
  rw [ints_len]
  by_cases c : (t.length : Int) > 100
  · exact ev_if c (Ev.step (fun k => by rw [jobshelllaw03_CodecSpoilt.j0, if_pos rfl]) awake_some)
  refine ev_else c ?_
  by_cases cb : by_ = 0
  · subst cb
    exact Ev.step (fun k => by rw [jobshelllaw03_CodecSpoilt.j0, if_pos (by decide)]) awake_some
  have e0 : (((by_ : Nat) : Int) == 0) = false := beq_eq_false_iff_ne.mpr (by omega)
  rw [e0]
  have hF := FB_len (k := k0) (t := t) (by omega)
  have hf4 : (four (sum (FB k0 t))).length = 4 := rfl
  have hlen : (FR k0 t).length = (E (2 * t.length)).length + t.length + 5 := by
    unfold FR FB
    simp only [List.cons_append, List.length_cons, List.length_append, four, List.length_nil]
  have hF2 : (FR k0 t).length ≤ 200 := by unfold FR; rw [List.length_append]; omega
  have hEp := E_pos (2 * t.length)
  have hm : at_ % (t.length + 4) < t.length + 4 := Nat.mod_lt _ (by omega)
  have d1 : -9223372036854775808 ≤ (k0 : Int) ∧ (k0 : Int) ≤ 9223372036854775807 := by omega
  have d2 : -9223372036854775808 ≤ (at_ : Int) ∧ (at_ : Int) ≤ 9223372036854775807 := by omega
  have d3 : -9223372036854775808 ≤ (t.length : Int) + 4 ∧ (t.length : Int) + 4 ≤ 9223372036854775807 := by omega
  have d4 : (0 : Int) ≤ (at_ : Int) := by omega
  have d5 : -9223372036854775808 ≤ ((FR k0 t).length : Int) - 1 ∧ ((FR k0 t).length : Int) - 1 ≤ 9223372036854775807 := by omega
  have d6 : -9223372036854775808 ≤ ((FR k0 t).length : Int) - 1 - ((at_ % (t.length + 4) : Nat) : Int) ∧ ((FR k0 t).length : Int) - 1 - ((at_ % (t.length + 4) : Nat) : Int) ≤ 9223372036854775807 := by omega
  have d7 : ((FR k0 t).length : Int) - 1 - ((at_ % (t.length + 4) : Nat) : Int) = (((FR k0 t).length - 1 - at_ % (t.length + 4) : Nat) : Int) := by omega
  have d8 : (FR k0 t).length ≤ 100000000 := by omega
  have d9 : small t.length := by unfold small; omega
  have d0 : t.length ≤ 1000000000 := by omega
  have hx8 : (FR k0 t).getD ((FR k0 t).length - 1 - at_ % (t.length + 4)) 0 < 256 := getD_lt (FR_bytes hk0 hb) _
  have b1 : ¬ (((FR k0 t).length : Int) < ((t.length + 4 : Nat) : Int)) := by omega
  have b2 : ([] : List Int).length + (FR k0 t).length < 140737488355328 := by rw [List.length_nil]; omega
  have b3 : ¬ (((t.length + 4 : Nat) : Int) = 0) := by omega
  have b4 : (0 : Int) ≤ (((FR k0 t).length - 1 - at_ % (t.length + 4) : Nat) : Int) := by omega
  have b5 : (((FR k0 t).length - 1 - at_ % (t.length + 4) : Nat) : Int) < ((FR k0 t).length : Int) := by omega
  have a1 : wrap64 (k0 : Int) = (k0 : Int) := w64 d1.1 d1.2
  have a2 : wrap64 (at_ : Int) = (at_ : Int) := w64 d2.1 d2.2
  have a3 : wrap64 ((t.length : Int) + 4) = ((t.length + 4 : Nat) : Int) := w64 d3.1 d3.2
  have a4 : Int.tmod (at_ : Int) ((t.length + 4 : Nat) : Int) = ((at_ % (t.length + 4) : Nat) : Int) := Int.tmod_eq_emod_of_nonneg d4
  have a5 : wrap64 (((FR k0 t).length : Int) - 1) = ((FR k0 t).length : Int) - 1 := w64 d5.1 d5.2
  have a6 : wrap64 (((FR k0 t).length : Int) - 1 - ((at_ % (t.length + 4) : Nat) : Int)) = (((FR k0 t).length - 1 - at_ % (t.length + 4) : Nat) : Int) := (w64 d6.1 d6.2).trans d7
  refine Ev.step (fun k => by rw [jobshelllaw03_CodecSpoilt.j0, if_neg (by decide), a1, cSeal_eq hk0 hb d0, Option.bind_some, ints_len, ints_len, a3, if_neg b1, Option.bind_some, if_pos b2, Option.bind_some, List.nil_append, if_neg b3, ints_len, a2, a4, a5, a6, if_pos b4, if_pos b5, rd_ints, u8_xor_nat _ _ hx8 hby, Int.toNat_natCast, ints_set2]) ?_
  have hbx : ∀ b ∈ (FR k0 t).set ((FR k0 t).length - 1 - at_ % (t.length + 4)) ((FR k0 t).getD ((FR k0 t).length - 1 - at_ % (t.length + 4)) 0 ^^^ by_), b < 256 := fun b h => by
    rcases List.mem_or_eq_of_mem_set h with h | rfl
    · exact FR_bytes hk0 hb b h
    · exact Nat.xor_lt_two_pow (n := 8) hx8 hby
  refine ev_given (cOpen_eq hbx (by rw [List.length_set]; exact d8)) ?_
  rw [OP_spoilt hk0 hb d9 hm hby cb]
  exact ev_if rfl (ev_if rfl (ev_if rfl (ev_if rfl awake_some)))

end Go.Proofs.Ytdgdabgbdephnaa.Pure
