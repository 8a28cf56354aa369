/- Plain lemmas for chapter 16: the reference's Next comes to nextS, too. No conditions beyond those written at each. -/
import Derived.Test.YtgplhdgimckfjaaLem4
import Derived.Test.YtgplhdgimckfjaaQ19
set_option linter.unusedVariables false
set_option linter.unusedSimpArgs false
namespace Go.Proofs.Ytgplhdgimckfjaa.Pure
open Go.RowKit Go.Proofs.Ytgplhdgimckfjaa.Q Go.Proofs.YtgplhdgimckfjaaW.PrintWords Go.Proofs.YtgplhdgimckfjaaW.PrintLast

theorem r_j5 (si kn : Bool) (c : ByteArray) (b0 b1 : Int) (hc : c.size = 1) (k : Nat) :
    jobshellref16_Next.j5 (k + 1) si kn c b0 b1 = some (if kn = true then (c, em, 0, em, b0, b1, 0) else if si = true then (qm, c, 2, em, b0, b1, 0) else (qm, em, 2, ill ++ c, b0, b1, 0)) := by
  have z5 : 18 + c.size ≤ 9223372036854775807 := by omega
  simp only [jobshellref16_Next.j5]
  cases kn <;> cases si <;> simp only [Bool.false_eq_true, if_false, if_true, z5] <;> rfl

theorem r_j4 (l : List ByteArray) (arg : ByteArray) (si : Bool) (kt : Bool × Bool) (c : ByteArray) (idx off o1 : Int) (hc : c.size = 1) (hi : 1 ≤ idx ∧ idx ≤ 1000) (ho : 0 ≤ off ∧ off < (arg.size : Int) ∧ arg.size ≤ 1000) (k : Nat) :
    jobshellref16_Next.j4 (k + 2) l arg off si kt.1 c (if kt.1 = true then kt.2 else false) idx o1 (idx + 1) 0 = some (ex (optP kt si (moreS arg off) c arg (rdOf ByteArray.empty l idx) l.length idx off)) := by
  have w1 : wrap64 (off + 1) = off + 1 := w64 (by omega) (by omega)
  have w3 : wrap64 (idx + 2) = idx + 2 := w64 (by omega) (by omega)
  have z1 : 0 ≤ off + 1 := by omega
  have z2 : off + 1 ≤ (arg.size : Int) := by omega
  have z3 : 0 ≤ idx := by omega
  have z4 : 31 + c.size ≤ 9223372036854775807 := by omega
  have e : moreS arg off = decide (off + 1 < (arg.size : Int)) := rfl
  obtain ⟨k1, k2⟩ := kt
  simp only [jobshellref16_Next.j4, w1, w3]
  unfold optP
  generalize hm : moreS arg off = m at e ⊢
  cases m
  · have hm' : ¬ (off + 1 < (arg.size : Int)) := by simpa using e.symm
    simp only [if_neg hm', r_j5 _ _ _ _ _ hc]
    cases k1 <;> cases k2 <;> cases si <;> simp only [Bool.false_eq_true, if_false, if_true, z1, z2, z3, z4]
    all_goals first | rfl | (split <;> first | rfl | omega)
  · have hm' : off + 1 < (arg.size : Int) := by simpa using e.symm
    simp only [if_pos hm', r_j5 _ _ _ _ _ hc]
    cases k1 <;> cases k2 <;> cases si <;> simp only [Bool.false_eq_true, if_false, if_true, z1, z2, z3, z4]
    all_goals first | rfl | (split <;> first | rfl | omega)

theorem r_j2 (a : ByteArray) (l : List ByteArray) (idx off o1 : Int) (hn : a.size ≤ 140737488351232) (hv : vS a ≠ 6) (hl : l.length ≤ 1000) (hi : 1 ≤ idx ∧ idx ≤ (l.length : Int))
    (ho : 0 ≤ off ∧ off < ((argS l idx).size : Int) ∧ (argS l idx).size ≤ 1000) : Ev (fun k => jobshellref16_Next.j2 k a l (argS l idx) off idx o1 (idx + 1) 0) (ex (optS a l idx off)) := by
  have w1 : wrap64 (off + 1) = off + 1 := w64 (by omega) (by omega)
  obtain ⟨c1, c2⟩ := ch_one (argS l idx) off ⟨ho.1, ho.2.1⟩
  have z2 : off ≤ off + 1 := by omega
  have z3 : off + 1 ≤ ((argS l idx).size : Int) := by omega
  have z4 : 0 ≤ off := ho.1
  have z5 := ho.2.1
  have hii : 1 ≤ idx ∧ idx ≤ 1000 := by omega
  have J : Ev (fun k => jobshellref16_Next.j4 k l (argS l idx) off (sil a) (lookL (lets a) (bt (argS l idx) off)).1 (chS (argS l idx) off)
      (if (lookL (lets a) (bt (argS l idx) off)).1 = true then (lookL (lets a) (bt (argS l idx) off)).2 else false) idx o1 (idx + 1) 0) (ex (optS a l idx off)) :=
    ⟨2, fun k hk => by
      obtain ⟨m, rfl⟩ : ∃ m, k = m + 2 := ⟨k - 2, by omega⟩
      exact r_j4 l (argS l idx) (sil a) _ (chS (argS l idx) off) idx off o1 c1 hii ho m⟩
  have J3 : Ev (fun k => jobshellref16_Next.j3 k a l (argS l idx) off (sil a) idx o1 (idx + 1) 0) (ex (optS a l idx off)) := by
    refine Ev.step (fun k => by simp only [jobshellref16_Next.j3, w1]; rw [if_pos z4, if_pos z5]) (Ev.bind (rfind_ev a hn hv (bt (argS l idx) off)) ?_)
    simp only [if_pos z2, if_pos z3]
    generalize lookL (lets a) (bt (argS l idx) off) = kt at J ⊢
    obtain ⟨k1, k2⟩ := kt
    cases k1
    · simp only [Bool.false_eq_true, if_false] at J ⊢
      exact J
    · simp only [if_true] at J ⊢
      exact J
  refine Ev.step (fun k => ?_) J3
  simp only [jobshellref16_Next.j2]
  unfold sil
  by_cases h : 0 < a.size
  · rw [if_pos (by omega), if_pos (by omega)]
    simp [h]
  · rw [if_neg (by omega)]
    simp [h]

theorem toList_get (s : ByteArray) : s.toList = s.data.toList := Go.ByteArray.toList_eq s
theorem toList_45 (s : ByteArray) : s.toList = ([45] : List UInt8) ↔ s.size = 1 ∧ bt s 0 = 45 := by
  rw [toList_get]
  obtain ⟨⟨d⟩⟩ := s
  cases d with
  | nil => simp [ByteArray.size]
  | cons x r =>
    cases r with
    | nil =>
      have hb : bt (⟨⟨[x]⟩⟩ : ByteArray) 0 = (x.toNat : Int) := by
        unfold bt
        rw [dif_pos (show (0 : Int).toNat < (⟨⟨[x]⟩⟩ : ByteArray).size from Nat.zero_lt_one)]
        rfl
      rw [hb]
      constructor
      · intro h
        obtain rfl : x = 45 := by simpa using h
        exact ⟨rfl, rfl⟩
      · rintro ⟨_, h⟩
        have : x = 45 := UInt8.toNat_inj.mp (by have : x.toNat = 45 := by omega
                                                exact this)
        simp [this]
    | cons y r =>
      constructor
      · intro h
        simp at h
      · rintro ⟨h, _⟩
        have : (⟨⟨x :: y :: r⟩⟩ : ByteArray).size = r.length + 2 := rfl
        omega

theorem rnext_ev (a : ByteArray) (l : List ByteArray) (idx off : Int) (hn : a.size ≤ 140737488351232) (hl : l.length ≤ 1000) (hs : ∀ s ∈ l, s.size ≤ 1000)
    (hw : -9223372036854775808 ≤ idx ∧ idx ≤ 9223372036854775807) (hw2 : -9223372036854775808 ≤ off ∧ off ≤ 9223372036854775807) :
    Ev (fun k => jobshellref16_Next.f k a l idx off) (nextS a l idx off) := by
  unfold jobshellref16_Next.f nextS
  refine Ev.bind (rvalid_ev a hn) ?_
  by_cases hv : vS a = 0
  · rw [if_neg (Classical.not_not.mpr hv)]
    simp only [if_pos hv]
    have hv6 : vS a ≠ 6 := by rw [hv]; decide
    have has := arg_small hs idx
    have bad : Ev (fun k => jobshellref16_Next.j0 k a l true idx off) (em, em, 0, em, 0, 0, 2) := ev_at1 fun k => by
      simp only [jobshellref16_Next.j0, if_true]
      rfl
    by_cases h1 : idx < 1
    · rw [if_pos (.inl h1)]
      simp only [if_pos h1]
      exact bad
    · simp only [if_neg h1]
      by_cases h2 : off < 0
      · rw [if_pos (.inr (.inl h2))]
        simp only [if_pos h2]
        exact bad
      · simp only [if_neg h2]
        have w0 : wrap64 (idx - 1) = idx - 1 := w64 (by omega) (by omega)
        have z0 : 0 ≤ idx - 1 := by omega
        simp only [w0]
        -- the fitting states
        have good : ¬ ((l.length : Int) < idx ∧ 0 < off) → ¬ (0 < off ∧ ((argS l idx).size : Int) ≤ off) → Ev (fun k => jobshellref16_Next.j0 k a l false idx off)
            (if off = 0 then
              (if (l.length : Int) < idx ∨ (argS l idx).size < 2 ∨ bt (argS l idx) 0 ≠ 45 then (qm, em, 1, em, idx, off, 0)
               else if (argS l idx).toList = ([45, 45] : List UInt8) then (qm, em, 1, em, idx + 1, 0, 0)
               else ex (optS a l idx 1))
            else ex (optS a l idx off)) := by
          intro g1 g2
          by_cases h3 : idx > (l.length : Int)
          · have h0 : off = 0 := by omega
            subst h0
            rw [if_pos rfl, if_pos (.inl h3)]
            refine ev_at1 fun k => ?_
            simp only [jobshellref16_Next.j0, Bool.false_eq_true, if_false]
            rw [if_pos h3]
            rfl
          · have z1 : idx - 1 < (l.length : Int) := by omega
            have w2 : wrap64 (idx + 1) = idx + 1 := w64 (by omega) (by omega)
            have e : ∀ k, jobshellref16_Next.j0 (k + 1) a l false idx off = if off = 0 then (if (argS l idx).toList = ([] : List UInt8) then (jobshellref16_Next.j1 k a l (argS l idx) true idx off qm em 1 em (idx + 1) 0) else (if (argS l idx).toList = ([45] : List UInt8) then (jobshellref16_Next.j1 k a l (argS l idx) true idx off qm em 1 em (idx + 1) 0) else (if 0 < ((argS l idx).size : Int) then (jobshellref16_Next.j1 k a l (argS l idx) ((bt (argS l idx) 0) != 45) idx off qm em 1 em (idx + 1) 0) else (none)))) else (jobshellref16_Next.j2 k a l (argS l idx) off idx off (idx + 1) 0) := by
              intro k
              simp only [jobshellref16_Next.j0, Bool.false_eq_true, if_false, w0, w2]
              rw [if_neg h3, if_pos z0, if_pos z1]
              rfl
            have stop : Ev (fun k => jobshellref16_Next.j1 k a l (argS l idx) true idx off qm em 1 em (idx + 1) 0) (qm, em, 1, em, idx, off, 0) := ev_at1 fun k => by
              simp only [jobshellref16_Next.j1, if_true]
            by_cases h0 : off = 0
            · rw [if_pos h0]
              simp only [if_pos h0] at e
              have h3' : ¬ ((l.length : Int) < idx) := h3
              by_cases h4 : (argS l idx).size = 0
              · rw [if_pos (.inr (.inl (by omega)))]
                exact Ev.step (fun k => by rw [e, if_pos ((toList_nil _).mpr h4)]) stop
              · have e4 : ¬ (argS l idx).toList = ([] : List UInt8) := fun h => h4 ((toList_nil _).mp h)
                by_cases h5 : (argS l idx).size = 1 ∧ bt (argS l idx) 0 = 45
                · rw [if_pos (.inr (.inl (by omega)))]
                  exact Ev.step (fun k => by rw [e, if_neg e4, if_pos ((toList_45 _).mpr h5)]) stop
                · have e5 : ¬ (argS l idx).toList = ([45] : List UInt8) := fun h => h5 ((toList_45 _).mp h)
                  have z6 : 0 < ((argS l idx).size : Int) := by omega
                  by_cases h6 : bt (argS l idx) 0 = 45
                  · have h7 : ¬ (argS l idx).size < 2 := fun h => h5 ⟨by omega, h6⟩
                    have h6' : (bt (argS l idx) 0 != 45) = false := by simp [h6]
                    rw [if_neg (by rintro (h | h | h); exact h3' h; exact h7 h; exact h h6)]
                    by_cases h8 : (argS l idx).toList = ([45, 45] : List UInt8)
                    · rw [if_pos h8]
                      refine Ev.step (fun k => by rw [e, if_neg e4, if_neg e5, if_pos z6, h6']) (ev_at1 fun k => ?_)
                      simp only [jobshellref16_Next.j1, Bool.false_eq_true, if_false]
                      rw [if_pos h8]
                    · rw [if_neg h8]
                      have O := r_j2 a l idx 1 off hn hv6 hl (by omega) ⟨by decide, by omega, has⟩
                      refine Ev.step (fun k => by rw [e, if_neg e4, if_neg e5, if_pos z6, h6']) (Ev.step (fun k => ?_) O)
                      simp only [jobshellref16_Next.j1, Bool.false_eq_true, if_false]
                      rw [if_neg h8]
                  · have h6' : (bt (argS l idx) 0 != 45) = true := by simp [h6]
                    rw [if_pos (.inr (.inr h6))]
                    exact Ev.step (fun k => by rw [e, if_neg e4, if_neg e5, if_pos z6, h6']) stop
            · rw [if_neg h0]
              simp only [if_neg h0] at e
              exact Ev.step e (r_j2 a l idx off off hn hv6 hl (by omega) ⟨by omega, by omega, has⟩)
        by_cases h3 : off > 0
        · simp only [if_pos h3]
          by_cases h4 : idx > (l.length : Int)
          · simp only [if_pos h4]
            rw [if_pos (.inr (.inr ⟨h3, .inl h4⟩))]
            exact bad
          · have z1 : idx - 1 < (l.length : Int) := by omega
            have h4' : ¬ ((l.length : Int) < idx) := h4
            simp only [if_neg h4, if_pos z0, if_pos z1]
            change Ev (fun k => jobshellref16_Next.j0 k a l (decide (off ≥ ((argS l idx).size : Int))) idx off) _
            by_cases h5 : ((argS l idx).size : Int) ≤ off
            · have h5' : decide (off ≥ ((argS l idx).size : Int)) = true := decide_eq_true h5
              rw [h5', if_pos (.inr (.inr ⟨h3, .inr h5⟩))]
              exact bad
            · have h5' : decide (off ≥ ((argS l idx).size : Int)) = false := decide_eq_false h5
              rw [h5', if_neg (by rintro (h | h | ⟨_, h | h⟩); exact h1 h; exact h2 h; exact h4' h; exact h5 h)]
              exact good (fun h => h4' h.1) (fun h => h5 h.2)
        · simp only [if_neg h3]
          rw [if_neg (by rintro (h | h | ⟨h, _⟩); exact h1 h; exact h2 h; exact h3 h)]
          exact good (fun h => h3 h.2) (fun h => h3 h.1)
  · rw [if_pos hv]
    simp only [if_neg hv]
    exact ev_const
end Go.Proofs.Ytgplhdgimckfjaa.Pure
