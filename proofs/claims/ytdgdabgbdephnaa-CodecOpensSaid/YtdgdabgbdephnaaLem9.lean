/- Plain lemmas for chapter 03: the reference's Open reads by OP. No conditions beyond those written at each. -/
import Derived.Test.YtdgdabgbdephnaaLem8
import Derived.Test.YtdgdabgbdephnaaQ21
set_option linter.unusedVariables false
set_option linter.unusedSimpArgs false
namespace Go.Proofs.Ytdgdabgbdephnaa.Pure
open Go.RowKit Go.Proofs.Ytdgdabgbdephnaa.Q Go.Proofs.YtdgdabgbdephnaaW.PrintWords Go.Proofs.YtdgdabgbdephnaaW.PrintLast Go.Proofs.YtdgdabgbdephnaaW.PrintMore

theorem rOpen_j0 {h n j : Nat} {m : List Nat} (hb : ∀ b ∈ h :: m, b < 256) (hl : m.length ≤ 100000000) (hj : j + n + 4 ≤ m.length) :
    Ev (fun k => jobshellref03_Open.j0 k (ints (h :: m)) (n : Int) ((1 + j : Nat) : Int) false)
      (OPr (if four (sum (h :: m.take (j + n))) = (m.drop (j + n)).take 4 then .ok (h, (m.drop j).take n, j + n + 5) else .error 29)) := by
  have hbm : ∀ b ∈ m, b < 256 := fun b hb' => hb b (List.mem_cons_of_mem _ hb')
  have hh := hb h List.mem_cons_self
  have hll : (ints (h :: m)).length = m.length + 1 := by rw [ints_len, List.length_cons]
  have u1 : wrap64 (((1 + j : Nat) : Int) + (n : Int)) = ((1 + j + n : Nat) : Int) := by
    rw [w64 (by omega) (by omega)]
    omega
  have u2 : wrap64 (((1 + j + n : Nat) : Int) + 4) = ((1 + j + n + 4 : Nat) : Int) := by
    rw [w64 (by omega) (by omega)]
    omega
  have t1 : (h :: m).take (1 + j + n) = h :: m.take (j + n) := by rw [show 1 + j + n = (j + n) + 1 by omega, List.take_succ_cons]
  have t2 : (h :: m).drop (1 + j + n) = m.drop (j + n) := by rw [show 1 + j + n = (j + n) + 1 by omega, List.drop_succ_cons]
  have t3 : (h :: m).drop (1 + j) = m.drop j := by rw [show 1 + j = j + 1 by omega, List.drop_succ_cons]
  have hbt : ∀ b ∈ h :: m.take (j + n), b < 256 := fun b hb' => by
    rcases List.mem_cons.1 hb' with rfl | hb'
    · exact hh
    · exact bytes_take hbm _ b hb'
  have hlt : (h :: m.take (j + n)).length ≤ m.length + 1 := by rw [List.length_cons, List.length_take]; omega
  have hs := sum_lt hbt
  have hr : wrap64 (rd (ints (h :: m)) 0) = (h : Int) := by
    have := rd_ints (h :: m) 0
    rw [show ((0 : Nat) : Int) = 0 from rfl] at this
    rw [this, show (h :: m).getD 0 0 = h from rfl, w64 (by omega) (by omega)]
  have b1 : (0 : Int) ≤ ((1 + j + n : Nat) : Int) := by omega
  have b2 : ((1 + j + n : Nat) : Int) ≤ ((m.length + 1 : Nat) : Int) := by omega
  have b3 : ((1 + j + n : Nat) : Int) ≤ ((1 + j + n + 4 : Nat) : Int) := by omega
  have b4 : ((1 + j + n + 4 : Nat) : Int) ≤ ((m.length + 1 : Nat) : Int) := by omega
  have b5 : (0 : Int) < ((m.length + 1 : Nat) : Int) := by omega
  have b6 : (0 : Int) ≤ ((1 + j : Nat) : Int) := by omega
  have b7 : ((1 + j : Nat) : Int) ≤ ((1 + j + n : Nat) : Int) := by omega
  have b8 : ((m.drop j).take n).length < 140737488355328 := by rw [List.length_take, List.length_drop]; omega
  have b9 : ((1 + j + n + 4 : Nat) : Int) = ((j + n + 5 : Nat) : Int) := by omega
  have hX : ∀ b ∈ (m.drop (j + n)).take 4, b < 256 := bytes_take (bytes_drop hbm _) _
  refine Ev.step (fun k => by rw [jobshellref03_Open.j0, if_neg (by decide), hll, u1, u2, hr, Int.toNat_natCast, Int.toNat_natCast, Int.toNat_natCast, cut_eq _ (1 + j + n) 4, cut_eq _ (1 + j) n, ints_take, t1, t2, t3]) ?_
  refine ev_if b1 (ev_if b2 (Ev.bind (rSum_ev _ hbt (by omega)) (ev_given (rfour_eq hs) (ev_if b3 (ev_if b4 (ev_given (same_dec (four_bytes _) hX) ?_))))))
  by_cases c3 : four (sum (h :: m.take (j + n))) = (m.drop (j + n)).take 4
  · rw [decide_eq_true c3, if_pos c3]
    refine ev_if rfl (ev_if b5 (ev_some (ev_if b6 (ev_if b7 (ev_if (by rw [ints_len, List.length_nil, Nat.zero_add]; exact b8) ?_)))))
    rw [List.nil_append, b9]
    exact ev_const
  · rw [decide_eq_false c3, if_neg c3]
    exact ev_else (by decide) ev_const
theorem rOpen_ev {l : List Nat} (hb : ∀ b ∈ l, b < 256) (hl : l.length ≤ 100000000) : Ev (fun k => jobshellref03_Open.f k (ints l)) (OPr (OP l)) := by
  match l, hb, hl with
  | [], _, _ => exact ev_const
  | h :: m, hb, hl =>
    have hbm : ∀ b ∈ m, b < 256 := fun b hb' => hb b (List.mem_cons_of_mem _ hb')
    rw [List.length_cons] at hl
    have hll : (ints (h :: m)).length = m.length + 1 := by rw [ints_len, List.length_cons]
    unfold jobshellref03_Open.f
    rw [hll]
    refine ev_else (by omega) (ev_if (by omega) ?_)
    have e0 : (ints (h :: m)).drop 1 = ints m := rfl
    rw [e0]
    refine Ev.bind (rTake_ev hbm) ?_
    rw [OP]
    unfold LN
    cases hd : D m 0 0 with
    | error e =>
      rw [TI_err hd]
      have := D_err m 0 0 e hd
      exact ev_else (by simp only; omega) ev_const
    | ok x =>
      rw [TI_ok hd]
      obtain ⟨z1, e1, e2, _⟩ := D_unique0 hbm hd
      simp only
      refine ev_if trivial ?_
      by_cases c : x.1 % 2 = 1
      · rw [if_pos c]
        exact ev_if (unz_neg c) ev_const
      · rw [if_neg c, unz_pos c]
        simp only
        have u1 : wrap64 (1 + (x.2 : Int)) = ((1 + x.2 : Nat) : Int) := by
          rw [w64 (by omega) (by omega)]
          omega
        have u2 : wrap64 (((m.length + 1 : Nat) : Int) - ((1 + x.2 : Nat) : Int)) = ((m.length - x.2 : Nat) : Int) := by
          rw [w64 (by omega) (by omega)]
          omega
        have u3 : wrap64 (((m.length - x.2 : Nat) : Int) - 4) = ((m.length - x.2 : Nat) : Int) - 4 := w64 (by omega) (by omega)
        rw [u1, u2, u3]
        clear u1 u2 u3
        refine ev_else (by omega) ?_
        by_cases c1 : m.length - x.2 < 4
        · rw [if_pos c1]
          exact ev_if (by omega) (Ev.step (f := fun _ => some (0, [], 0, 28)) (fun k => by rw [jobshellref03_Open.j0, if_pos rfl]) ev_const)
        rw [if_neg c1]
        refine ev_else (by omega) ?_
        by_cases c2 : m.length - x.2 - 4 < x.1 / 2
        · rw [if_pos c2, decide_eq_true (by omega)]
          exact Ev.step (f := fun _ => some (0, [], 0, 28)) (fun k => by rw [jobshellref03_Open.j0, if_pos rfl]) ev_const
        · rw [if_neg c2, decide_eq_false (by omega)]
          exact rOpen_j0 hb (by omega) (by omega)
end Go.Proofs.Ytdgdabgbdephnaa.Pure
