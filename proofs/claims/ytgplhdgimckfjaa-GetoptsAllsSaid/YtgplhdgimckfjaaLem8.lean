/- Plain lemmas for chapter 16: the reference's All comes to allS, too. No conditions beyond those written at each. -/
import Derived.Test.YtgplhdgimckfjaaLem5
import Derived.Test.YtgplhdgimckfjaaLem7
import Derived.Test.YtgplhdgimckfjaaQ21
set_option linter.unusedVariables false
set_option linter.unusedSimpArgs false
namespace Go.Proofs.Ytgplhdgimckfjaa.Pure
open Go.RowKit Go.Proofs.Ytgplhdgimckfjaa.Q Go.Proofs.YtgplhdgimckfjaaW.PrintWords Go.Proofs.YtgplhdgimckfjaaW.PrintLast

theorem rall_l1 (a : ByteArray) (l : List ByteArray) (hs : Small a l) (hv : vS a = 0) (x8 : Int) (hx : x8 ≤ 100000) (m : Nat) : ∀ (idx off x12 : Int) (acc : List S32), Inv l idx off → pot l idx off < (m : Int) → acc.length + m ≤ 10000 →
    0 ≤ x12 → x12 + m ≤ x8 →
    Ev (fun k => jobshellref16_All.l1 k a l x8 acc x12 idx off) (acc ++ (runS a l m idx off).1, (runS a l m idx off).2, 0) := by
  induction m with
  | zero =>
    intro idx off x12 acc h hp _ _ _
    have := pot_pos l idx off h
    exact absurd hp (by omega)
  | succ m ih =>
    intro idx off x12 acc h hp ha hx0 hx1
    have hlo := h.lo
    have hhi := h.hi
    have hof := h.off0
    have hlen := hs.len
    have hoff : off ≤ 1000 := by
      by_cases h0 : 0 < off
      · have := h.arg h0
        have h6 := arg_small hs.e' idx
        omega
      · omega
    have hlt8 : x12 < x8 := by omega
    have w1 : wrap64 (x12 + 1) = x12 + 1 := w64 (by omega) (by omega)
    have N := rnext_ev a l idx off hs.a' hs.l' hs.e' (by omega) (by omega)
    refine Ev.step (fun k => by simp only [jobshellref16_All.l1]; rw [if_pos hlt8]) (Ev.bind N ?_)
    rcases next_at a l idx off hv h with ⟨i', e, k1, k2, _⟩ | ⟨o', e, h1, h2, h3, h4, h5, _⟩
    · have w0 : wrap64 (i' - 1) = i' - 1 := w64 (by omega) (by omega)
      simp only [runS, e, if_true, w0, List.append_nil]
      exact ev_const
    · obtain ⟨g1, g2, g3, _⟩ := opt_on a l idx off o' h h1 h2 h3 h4 h5
      have g1' : ¬ (ex (optS a l idx o')).2.2.1 = 1 := g1
      have hlt : acc.length < 2513169434916 := by omega
      have I := ih _ _ (x12 + 1) (acc ++ [optOf (ex (optS a l idx o'))]) g2 (by omega) (by simp; omega) (by omega) (by omega)
      simp only [runS, e]
      simp only [if_neg g1', if_pos hlt, w1]
      simpa [ex, optOf] using I
/-- The sum that the reference's All takes. -/
theorem rall_l0 (a : ByteArray) (l : List ByteArray) (hs : Small a l) (r : List S32 × Int × Int) (h : Ev (fun k => jobshellref16_All.l1 k a l ((rest l 0 : Int) + 1) [] 0 1 0) r) (d : Nat) :
    ∀ j : Nat, j ≤ l.length → l.length - j = d → ∀ x8 : Int, 0 ≤ x8 → x8 + (rest l j : Int) = (rest l 0 : Int) + 1 + (l.length - j : Nat) → 
      Ev (fun k => jobshellref16_All.l0 k a l x8 j) r := by
  have hb := rest_bound l hs.each
  have hl := hs.len
  induction d with
  | zero =>
    intro j hj hd x8 h0 hx
    obtain rfl : j = l.length := by omega
    have hr : rest l l.length = 0 := by unfold rest; rw [List.drop_length]; rfl
    rw [hr] at hx
    obtain rfl : x8 = (rest l 0 : Int) + 1 := by omega
    refine Ev.step (fun k => ?_) h
    simp only [jobshellref16_All.l0]
    rw [if_neg (by omega)]
  | succ d ih =>
    intro j hj hd x8 h0 hx
    have hlt : j < l.length := by omega
    have hst := rest_step l j hlt
    have hsz := hs.each _ (List.getElem_mem hlt)
    have z1 : wrap64 ((j : Int) + 1) = ((j + 1 : Nat) : Int) := by rw [w64 (by omega) (by omega)]; omega
    have z2 : wrap64 (x8 + ((l[j]'hlt).size : Int)) = x8 + ((l[j]'hlt).size : Int) := w64 (by omega) (by omega)
    have hrd : rdOf ByteArray.empty l (j : Int) = l[j]'hlt := by
      unfold rdOf
      rw [List.getD_eq_getElem?_getD]
      simp [hlt]
    refine Ev.step (fun k => ?_) (ih (j + 1) hlt (by omega) (x8 + ((l[j]'hlt).size : Int)) (by omega) (by omega))
    simp only [jobshellref16_All.l0]
    rw [if_pos (by omega), if_pos (by omega), hrd, z1, z2]
theorem rall_ev (a : ByteArray) (l : List ByteArray) (hs : Small a l) : Ev (fun k => jobshellref16_All.f k a l) (allS a l) := by
  unfold jobshellref16_All.f allS
  have hb := rest_bound l hs.each
  have hl := hs.len
  have w1 : wrap64 ((l.length : Int) + 1) = (l.length : Int) + 1 := w64 (by omega) (by omega)
  refine Ev.bind (rvalid_ev a hs.a') ?_
  by_cases hv : vS a = 0
  · rw [if_pos hv]
    simp only [if_pos hv, w1]
    have I := rall_l1 a l hs hv ((rest l 0 : Int) + 1) (by omega) (rest l 0 + 1) 1 0 0 [] (inv0 l) (by rw [pot0]; omega) (by rw [List.length_nil]; omega) (by decide) (by omega)
    rw [List.nil_append] at I
    exact rall_l0 a l hs _ I l.length 0 (Nat.zero_le _) (Nat.sub_zero _) ((l.length : Int) + 1) (by omega) (by omega)
  · rw [if_neg hv]
    simp only [if_neg hv]
    exact ev_const

end Go.Proofs.Ytgplhdgimckfjaa.Pure
