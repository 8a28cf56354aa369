/- The conversion of a slice of bytes to its own type (a constant string's bytes): the slice's own row is marked, its cells read as before. -/
import Derived.Test.YtdgdabgbdephnaaQ0
import Derived.Lib.SlBytesConst
namespace Go.Proofs.Ytdgdabgbdephnaa.Q
open Go.RowKit Go.Proofs.YtdgdabgbdephnaaW.PrintWords Go.Proofs.YtdgdabgbdephnaaW.PrintLast Go.Proofs.YtdgdabgbdephnaaW.PrintMore

theorem freeze_cell (w : World) (b : Nat) (k n : Nat) (a : Addr) : (w.freeze ⟨b, k, none⟩ n).cell? a = w.cell? a := by
  unfold World.freeze
  split
  · rfl
  · simp only [World.cell?, Array.getElem?_modify]
    by_cases h : b = a.block
    · rw [if_pos h]
      cases hh : w.heap[a.block]? with
      | none => rfl
      | some o => cases o <;> rfl
    · rw [if_neg h]

theorem conv_mark {A : Option Addr} {n c base : Nat} {ok : Nat → Prop} {w : World} {xs : List Int} (h : Kd.R (Kd.int .u8) 5 w base ok (.slice A n c) xs) (hn : 0 < xs.length) :
    ∃ w1, (convert 22 22 (.slice A n c)).run Try.prog w = .ok (.slice A n c) w1 ∧ Below base w w1 ∧ Kd.C (Kd.int .u8) w1 A xs.length xs ∧ xs.length ≤ c := by
  obtain ⟨hl, hc, hC⟩ := Kd.R_reads' h
  obtain ⟨h0, inner, ⟨h2, h3⟩, hr⟩ := h
  rcases h3 with ⟨h3, h4⟩ | ⟨g, cap, cur, h3, hg, hh, h5⟩
  · omega
  · subst hl
    obtain ⟨rfl, rfl⟩ : A = some ⟨g, 0, none⟩ ∧ c = cap := by simpa using h3
    have hsh : w.shape? g = some (5, cur.size) := by unfold World.shape?; rw [hh]
    refine ⟨w.freeze ⟨g, cur.size, none⟩ 1, ?_, ⟨?_, ?_, ?_, ?_, ?_⟩, ?_, hc⟩
    · simp [convert, run_underlying Try.underlying22, run_underlying Try.underlying5, markStringish, hsh]
    · unfold World.freeze; rfl
    · unfold World.freeze; rfl
    · unfold World.freeze; rfl
    · unfold World.freeze; simp
    · intro k hk
      unfold World.freeze
      rw [if_neg (by decide)]
      simp only [Array.getElem?_modify]
      rw [if_neg (by omega)]
    · refine ⟨hC.1, hC.2.1, fun hp => ?_⟩
      obtain ⟨ad, e, hcc⟩ := hC.2.2 hp
      refine ⟨ad, e, fun j p hj => ?_⟩
      obtain ⟨cs, hs, hR, hcell⟩ := hcc j p hj
      exact ⟨cs, hs, hR, fun i u hu => (freeze_cell _ _ _ _ _).trans (hcell i u hu)⟩
end Go.Proofs.Ytdgdabgbdephnaa.Q
