/- The law CodecSums in plain Lean: both checksums are the CRC, it has 32 bits, and it changes with one byte. No conditions. -/
import Derived.Test.YtdgdabgbdephnaaSayCodecSums
import Derived.Test.YtdgdabgbdephnaaLemA
namespace Go.Proofs.Ytdgdabgbdephnaa.Pure
open Go.RowKit Go.Proofs.Ytdgdabgbdephnaa.Q Go.Proofs.YtdgdabgbdephnaaW.PrintWords Go.Proofs.YtdgdabgbdephnaaW.PrintLast

theorem byte_of {a : Int} (h : (Lit.int .u8 a).wf = true) : ∃ m : Nat, a = (m : Int) ∧ m < 256 := by
  simp [Lit.wf, IntKind.min, IntKind.max, IntKind.bits, IntKind.signed] at h
  exact ⟨a.toNat, by omega, by omega⟩
theorem ints_set (l : List Nat) (i x : Nat) : (ints l).set i (x : Int) = ints (l.set i x) := by
  unfold ints
  rw [List.map_set]

theorem CodecSums : CodecSumsPure := by
  intro l0 a1 a2 hl h1 h2
  obtain ⟨l, rfl, hb⟩ := ints_of hl.1
  obtain ⟨at_, rfl, hat⟩ := byte_of h1
  obtain ⟨by_, rfl, hby⟩ := byte_of h2
  refine Ev.rounds ?_
  unfold jobshelllaw03_CodecSums.f
  rw [ints_len]
  by_cases c : (l.length : Int) > 300
  · exact Ev.congr (fun k => if_pos c) awake_some
  refine Ev.congr (fun k => if_neg c) ?_
  have hlen : l.length ≤ 1000000000000000 := by omega
  refine Ev.bind (cSum_ev l hb hlen) (Ev.bind (rSum_ev l hb hlen) ?_)
  have hs := sum_lt hb
  refine Ev.congr (fun k => if_pos rfl) (Ev.congr (fun k => if_neg (by omega)) ?_)
  rw [decide_eq_false (by omega)]
  refine Ev.step (fun k => by rw [jobshelllaw03_CodecSums.j0, if_neg (by decide), ints_len]) ?_
  by_cases c0 : (l.length : Int) = 0
  · refine Ev.congr (fun k => if_pos c0) (Ev.step (fun k => by rw [jobshelllaw03_CodecSums.j1, if_pos rfl]) awake_some)
  refine Ev.congr (fun k => if_neg c0) ?_
  by_cases cb : by_ = 0
  · subst cb
    exact Ev.step (fun k => by rw [jobshelllaw03_CodecSums.j1, if_pos (by decide)]) awake_some
  have e0 : (((by_ : Nat) : Int) == 0) = false := beq_eq_false_iff_ne.mpr (by omega)
  rw [e0]
  have em : Int.tmod (wrap64 (at_ : Int)) (l.length : Int) = ((at_ % l.length : Nat) : Int) := by
    rw [w64 (by omega) (by omega), Int.tmod_eq_emod_of_nonneg (by omega)]
    omega
  have hm : at_ % l.length < l.length := Nat.mod_lt _ (by omega)
  have hg := getD_lt hb (at_ % l.length)
  have hx : l.getD (at_ % l.length) 0 ^^^ by_ < 256 := Nat.xor_lt_two_pow (n := 8) (by omega) (by omega)
  refine Ev.step (f := fun k => ((codec_Sum.f k (ints (l.set (at_ % l.length) (l.getD (at_ % l.length) 0 ^^^ by_)))).bind fun t187 => (if t187 = ((sum l : Nat) : Int) then (some false) else ((jobshelllaw03_awake.f k).bind fun t188 => (some t188))))) (fun k => ?_) ?_
  · rw [jobshelllaw03_CodecSums.j1, if_neg (by decide), Option.bind_some, if_pos (by rw [ints_len, List.length_nil]; omega), Option.bind_some, List.nil_append, ints_len, if_neg c0, em, if_pos (by omega), if_pos (by omega), rd_ints, u8_xor_nat _ _ hg hby, Int.toNat_natCast, ints_set]
  · have hb2 : ∀ b ∈ l.set (at_ % l.length) (l.getD (at_ % l.length) 0 ^^^ by_), b < 256 := fun b h => by
      rcases List.mem_or_eq_of_mem_set h with h | rfl
      · exact hb b h
      · exact hx
    refine Ev.bind (cSum_ev _ hb2 (by rw [List.length_set]; exact hlen)) ?_
    have hge : l.getD (at_ % l.length) 0 = l[at_ % l.length] := by
      rw [List.getD_eq_getElem?_getD, List.getElem?_eq_getElem hm]
      rfl
    have hne : l.getD (at_ % l.length) 0 ^^^ by_ ≠ l[at_ % l.length] := by
      rw [hge]
      intro h
      refine cb (xor_cancel' (c := l[at_ % l.length]) (h.trans ?_))
      rw [Nat.xor_zero]
    have := sum_set hb hm hx hne
    exact Ev.congr (fun k => if_neg (by omega)) awake_some

end Go.Proofs.Ytdgdabgbdephnaa.Pure
