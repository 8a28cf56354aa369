/- The pure statement of GetoptsSilent: a ':' ahead of the specification changes the reports alone. Conditions: none beyond the statement's. -/
import Derived.Test.YtgplhdgimckfjaaSayGetoptsSilent
import Derived.Test.YtgplhdgimckfjaaLem7
set_option linter.unusedVariables false
set_option linter.unusedSimpArgs false
namespace Go.Proofs.Ytgplhdgimckfjaa.Pure
open Go.RowKit Go.Proofs.Ytgplhdgimckfjaa.Q Go.Proofs.YtgplhdgimckfjaaW.PrintWords Go.Proofs.YtgplhdgimckfjaaW.PrintLast

def colon (a : ByteArray) : ByteArray := (⟨#[58]⟩ : ByteArray) ++ a
theorem colon_size (a : ByteArray) : (colon a).size = 1 + a.size := by
  unfold colon
  rw [ByteArray.size_append]
  rfl
theorem colon_bl (a : ByteArray) : bl (colon a) = 58 :: bl a := by
  unfold colon
  rw [bl_append]
  rfl
theorem colon_sil (a : ByteArray) : sil (colon a) = true := by
  have h : 0 < (colon a).size := by rw [colon_size]; omega
  have h1 := bl_get (colon a) 0 h
  have h2 : (bl (colon a))[0]'(by rw [bl_len]; exact h) = 58 := by simp only [colon_bl, List.getElem_cons_zero]
  unfold sil
  have h3 : bt (colon a) 0 = 58 := h1.symm.trans h2
  simp [h, h3]
theorem colon_spl (a : ByteArray) : bl (spl (colon a)) = bl a := by
  unfold spl
  rw [if_pos (colon_sil a)]
  have e : bl ((colon a).extract 1 (colon a).size) = (bl (colon a)).drop 1 := by
    have hl : (colon a).data.toList.length = (colon a).size := by rw [Array.length_toList]; rfl
    unfold bl
    rw [ByteArray.data_extract, Array.toList_extract, List.extract_eq_take_drop, List.take_of_length_le (by rw [List.length_drop, hl]; exact Nat.le_refl _), List.map_drop]
  rw [e, colon_bl]
  rfl
theorem colon_vS (a : ByteArray) (h : sil a = false) : vS (colon a) = vS a ∧ lets (colon a) = lets a := by
  unfold vS lets
  rw [colon_spl]
  have : spl a = a := by unfold spl; rw [h]; rfl
  rw [this]
  exact ⟨rfl, rfl⟩

/-- Two options that differ in their report alone. -/
def okP (x y : S32) : Prop := y.f3 = em ∧ x.f2 = y.f2 ∧ (x.f2 = 0 → x.f0 = y.f0 ∧ x.f1 = y.f1 ∧ x.f3 = y.f3) ∧ (x.f2 = 2 → x.f3.toList ≠ ([] : List UInt8) ∧ y.f1.size = 1)

theorem app_ne (x c : ByteArray) (h : 0 < x.size) : (x ++ c).toList ≠ ([] : List UInt8) := by
  intro h'
  have := (toList_nil _).mp h'
  rw [ByteArray.size_append] at this
  omega

theorem optP_si (kt : Bool × Bool) (more : Bool) (c arg next : ByteArray) (n : Nat) (idx off : Int) (hc : c.size = 1) :
    okP (optOf (ex (optP kt false more c arg next n idx off))) (optOf (ex (optP kt true more c arg next n idx off))) ∧
    (optP kt false more c arg next n idx off).2.2.2.2 = (optP kt true more c arg next n idx off).2.2.2.2 := by
  have h1 : (req ++ c).toList ≠ ([] : List UInt8) := app_ne req c (by decide)
  have h2 : (ill ++ c).toList ≠ ([] : List UInt8) := app_ne ill c (by decide)
  obtain ⟨k1, k2⟩ := kt
  unfold optP okP optOf ex
  cases k1 <;> cases k2 <;> cases more <;> simp only [Bool.false_eq_true, if_false, if_true] <;> (try split) <;> simp_all

/-- What Next does at a state, whatever the letters are. -/
inductive Ctl where
  | bad
  | stop (i o : Int)
  | opt (o : Int)
def ctl (l : List ByteArray) (idx off : Int) : Ctl :=
  if idx < 1 ∨ off < 0 ∨ (0 < off ∧ ((l.length : Int) < idx ∨ ((argS l idx).size : Int) ≤ off)) then .bad
  else if off = 0 then
    (if (l.length : Int) < idx ∨ (argS l idx).size < 2 ∨ bt (argS l idx) 0 ≠ 45 then .stop idx off
     else if (argS l idx).toList = ([45, 45] : List UInt8) then .stop (idx + 1) 0
     else .opt 1)
  else .opt off
def run1 (a : ByteArray) (l : List ByteArray) (idx : Int) : Ctl → NextT
  | .bad => (em, em, 0, em, 0, 0, 2)
  | .stop i o => (qm, em, 1, em, i, o, 0)
  | .opt o => ex (optS a l idx o)
theorem next_ctl (a : ByteArray) (l : List ByteArray) (idx off : Int) (hv : vS a = 0) : nextS a l idx off = run1 a l idx (ctl l idx off) := by
  unfold nextS ctl
  rw [if_neg (fun g => g hv)]
  repeat' split
  all_goals rfl
theorem ctl_at (l : List ByteArray) (idx off : Int) (h : Inv l idx off) :
    (∃ i' o, ctl l idx off = .stop i' o) ∨ (∃ o', ctl l idx off = .opt o' ∧ off ≤ o' ∧ 1 ≤ o' ∧ idx ≤ (l.length : Int) ∧ o' < ((argS l idx).size : Int) ∧ bt (argS l idx) 0 = 45) := by
  have hlo := h.lo
  have hof := h.off0
  unfold ctl
  have h1 : ¬ (idx < 1 ∨ off < 0 ∨ (0 < off ∧ ((l.length : Int) < idx ∨ ((argS l idx).size : Int) ≤ off))) := by
    rintro (h1 | h1 | ⟨h1, h2⟩)
    · omega
    · omega
    · obtain ⟨h3, h4, _⟩ := h.arg h1
      omega
  rw [if_neg h1]
  by_cases h0 : off = 0
  · rw [if_pos h0]
    by_cases h2 : (l.length : Int) < idx ∨ (argS l idx).size < 2 ∨ bt (argS l idx) 0 ≠ 45
    · rw [if_pos h2]
      exact .inl ⟨_, _, rfl⟩
    · rw [if_neg h2]
      have h3 : idx ≤ (l.length : Int) := Int.not_lt.mp fun h => h2 (.inl h)
      have h4 : ¬ (argS l idx).size < 2 := fun h => h2 (.inr (.inl h))
      have h5 : bt (argS l idx) 0 = 45 := Classical.not_not.mp fun h => h2 (.inr (.inr h))
      by_cases h6 : (argS l idx).toList = ([45, 45] : List UInt8)
      · rw [if_pos h6]
        exact .inl ⟨_, _, rfl⟩
      · rw [if_neg h6]
        exact .inr ⟨1, rfl, by omega, by omega, h3, by omega, h5⟩
  · rw [if_neg h0]
    have h2 : 0 < off := by omega
    obtain ⟨h3, h4, h5⟩ := h.arg h2
    exact .inr ⟨off, rfl, by omega, by omega, h3, h4, h5⟩

theorem ex_st (t : OptT) : (ex t).2.2.1 = t.2.2.1 := rfl
theorem ex_i (t : OptT) : (ex t).2.2.2.2.1 = t.2.2.2.2.1 := rfl
theorem ex_o (t : OptT) : (ex t).2.2.2.2.2.1 = t.2.2.2.2.2 := rfl
theorem pairs (a : ByteArray) (l : List ByteArray) (h : sil a = false) (hv : vS a = 0) (n : Nat) : ∀ idx off, Inv l idx off → 
    (runS a l n idx off).2 = (runS (colon a) l n idx off).2 ∧ (runS a l n idx off).1.length = (runS (colon a) l n idx off).1.length ∧
    ∀ i : Nat, i < (runS a l n idx off).1.length → okP (rd_T32 (runS a l n idx off).1 i) (rd_T32 (runS (colon a) l n idx off).1 i) := by
  obtain ⟨c1, c2⟩ := colon_vS a h
  induction n with
  | zero => exact fun idx off _ => ⟨rfl, rfl, fun i hi => absurd hi (Nat.not_lt_zero i)⟩
  | succ n ih =>
    intro idx off hI
    have e := next_ctl a l idx off hv
    have e2 := next_ctl (colon a) l idx off (c1.trans hv)
    rcases ctl_at l idx off hI with ⟨i', o, ec⟩ | ⟨o', ec, h1, h2, h3, h4, h5⟩
    · rw [ec] at e e2
      simp only [run1] at e e2
      simp only [runS, e, e2, if_true]
      exact ⟨trivial, trivial, fun i hi => absurd hi (Nat.not_lt_zero i)⟩
    · rw [ec] at e e2
      simp only [run1] at e e2
      have ho0 : 0 ≤ o' := by omega
      have hch := (ch_one (argS l idx) o' ⟨ho0, h4⟩).1
      obtain ⟨p1, p2⟩ := optP_si (lookL (lets a) (bt (argS l idx) o')) (moreS (argS l idx) o') (chS (argS l idx) o') (argS l idx) (rdOf ByteArray.empty l idx) l.length idx o' hch
      have q1 : optS a l idx o' = optP (lookL (lets a) (bt (argS l idx) o')) false (moreS (argS l idx) o') (chS (argS l idx) o') (argS l idx) (rdOf ByteArray.empty l idx) l.length idx o' := by unfold optS; rw [h]
      have q2 : optS (colon a) l idx o' = optP (lookL (lets a) (bt (argS l idx) o')) true (moreS (argS l idx) o') (chS (argS l idx) o') (argS l idx) (rdOf ByteArray.empty l idx) l.length idx o' := by unfold optS; rw [c2, colon_sil]
      rw [← q1, ← q2] at p1 p2
      obtain ⟨g1, g2, g3, _⟩ := opt_on a l idx off o' hI h1 h2 h3 h4 h5
      obtain ⟨g1', _⟩ := opt_on (colon a) l idx off o' hI h1 h2 h3 h4 h5
      have n1 : ¬ (ex (optS a l idx o')).2.2.1 = 1 := g1
      have n2 : ¬ (ex (optS (colon a) l idx o')).2.2.1 = 1 := by rw [ex_st]; exact g1'
      have s1 : (ex (optS (colon a) l idx o')).2.2.2.2.1 = (ex (optS a l idx o')).2.2.2.2.1 := by
        rw [ex_i, ex_i, p2]
      have s2 : (ex (optS (colon a) l idx o')).2.2.2.2.2.1 = (ex (optS a l idx o')).2.2.2.2.2.1 := by
        rw [ex_o, ex_o, p2]
      obtain ⟨I1, I2, I3⟩ := ih _ _ g2
      simp only [runS, e, e2, if_neg n1, if_neg n2, s1, s2]
      refine ⟨I1, by simp only [List.length_cons]; exact congrArg (· + 1) I2, fun i hi => ?_⟩
      cases i with
      | zero => exact p1
      | succ i => exact I3 i (by simp only [List.length_cons] at hi; exact Nat.lt_of_succ_lt_succ hi)

theorem silent_l0 (xs ys : List S32) (hn : xs.length ≤ 100000) (hl : xs.length = ys.length) (hp : ∀ i : Nat, i < xs.length → okP (rd_T32 xs i) (rd_T32 ys i)) (d : Nat) : ∀ j : Nat, xs.length - j ≤ d →
    Ev (fun k => jobshelllaw16_GetoptsSilent.l0 k xs ys j) true := by
  have done : ∀ j : Nat, xs.length ≤ j → Ev (fun k => jobshelllaw16_GetoptsSilent.l0 k xs ys j) true := by
    intro j hj
    refine Ev.step (fun k => ?_) awake_some
    simp only [jobshelllaw16_GetoptsSilent.l0]
    rw [if_neg (by omega)]
  induction d with
  | zero => exact fun j hd => done j (by omega)
  | succ d ih =>
    intro j hd
    rcases Nat.lt_or_ge j xs.length with hlt | hge
    · have z1 : wrap64 ((j : Int) + 1) = ((j + 1 : Nat) : Int) := by rw [w64 (by omega) (by omega)]; omega
      have q0 : (j : Int) < (xs.length : Int) := by omega
      have q1 : (0 : Int) ≤ (j : Int) := by omega
      have q2 : (j : Int) < (ys.length : Int) := by omega
      obtain ⟨o1, o2, o3, o4⟩ := hp j hlt
      have I := ih (j + 1) (sub1 hd)
      refine Ev.step (fun k => ?_) I
      simp only [jobshelllaw16_GetoptsSilent.l0, z1]
      rw [if_pos q0, if_pos q1, if_pos q2]
      have e3 : (rd_T32 ys (j : Int)).f3.toList = ([] : List UInt8) := by rw [o1]; exact (toList_nil em).mpr rfl
      rw [if_pos e3, if_pos o2]
      have t2 : ∀ (A : Option Bool), (if (rd_T32 xs (j : Int)).f2 = 2 then (if ((rd_T32 xs (j : Int)).f3).toList = ([] : List UInt8) then none else (if (((rd_T32 ys (j : Int)).f1).size : Int) = 1 then A else none)) else A) = A := by
        intro A
        by_cases h2 : (rd_T32 xs (j : Int)).f2 = 2
        · obtain ⟨o5, o6⟩ := o4 h2
          rw [if_pos h2, if_neg o5, if_pos (by omega)]
        · rw [if_neg h2]
      by_cases h0 : (rd_T32 xs (j : Int)).f2 = 0
      · obtain ⟨u0, u1, u3⟩ := o3 h0
        have h2 : ¬ (rd_T32 xs (j : Int)).f2 = 2 := by omega
        have hf : ((!((((rd_T32 xs (j : Int)).f0).toList) == (((rd_T32 ys (j : Int)).f0).toList)) || (!((((rd_T32 xs (j : Int)).f1).toList) == (((rd_T32 ys (j : Int)).f1).toList)) || (!(((rd_T32 xs (j : Int)).f2) == ((rd_T32 ys (j : Int)).f2)) || (!((((rd_T32 xs (j : Int)).f3).toList) == (((rd_T32 ys (j : Int)).f3).toList))))))) = false := by
          rw [u0, u1, u3, o2]
          simp
        rw [if_pos h0, hf, if_neg (by decide), if_neg h2]
      · rw [if_neg h0, t2]
    · exact done j hge

theorem GetoptsSilent : GetoptsSilentPure := by
  intro a l ha hl
  refine Ev.rounds ?_
  unfold jobshelllaw16_GetoptsSilent.f
  obtain ⟨b, hb1, hb2⟩ := small_ev a l
  have out : Ev (fun k => jobshelllaw16_GetoptsSilent.j0 k a l true) true := Ev.step (fun k => by simp only [jobshelllaw16_GetoptsSilent.j0, if_true]) awake_some
  refine Ev.bind hb1 ?_
  cases b with
  | false =>
    simp only [Bool.false_eq_true, if_false]
    exact out
  | true =>
    simp only [if_true]
    obtain ⟨k1, k2, k3⟩ := hb2 rfl
    have e : ∀ k, (if (a.size : Int) > 0 then (if 0 < (a.size : Int) then (jobshelllaw16_GetoptsSilent.j0 k a l ((bt a 0) == 58)) else (none)) else (jobshelllaw16_GetoptsSilent.j0 k a l false)) = jobshelllaw16_GetoptsSilent.j0 k a l (sil a) := by
      intro k
      unfold sil
      by_cases h : 0 < a.size
      · rw [if_pos (by omega), if_pos (by omega)]
        simp [h]
      · rw [if_neg (by omega)]
        simp [h]
    simp only [e]
    cases hsil : sil a with
    | true => exact out
    | false =>
      have hs1 : Small a l := ⟨by omega, by omega, k3⟩
      have hs2 : Small (colon a) l := ⟨by rw [colon_size]; omega, by omega, k3⟩
      have A1 := all_ev a l hs1
      have A2 := all_ev (colon a) l hs2
      have L1 := all_len a l hs1
      have q1 : 1 + a.size ≤ 9223372036854775807 := by omega
      obtain ⟨c1, c2⟩ := colon_vS a hsil
      have P : (allS a l).2.1 = (allS (colon a) l).2.1 ∧ (allS a l).2.2 = (allS (colon a) l).2.2 ∧ (allS a l).1.length = (allS (colon a) l).1.length ∧ ∀ i : Nat, i < (allS a l).1.length → okP (rd_T32 (allS a l).1 i) (rd_T32 (allS (colon a) l).1 i) := by
        unfold allS
        rw [c1]
        by_cases hv : vS a = 0
        · rw [if_pos hv, if_pos hv]
          obtain ⟨p1, p2, p3⟩ := pairs a l hsil hv (rest l 0 + 1) 1 0 (inv0 l)
          exact ⟨p1, rfl, p2, p3⟩
        · rw [if_neg hv, if_neg hv]
          exact ⟨rfl, rfl, rfl, fun i hi => absurd hi (Nat.not_lt_zero i)⟩
      obtain ⟨p1, p2, p3, p4⟩ := P
      have q3 : (((allS a l).1.length : Nat) : Int) = (((allS (colon a) l).1.length : Nat) : Int) := by rw [p3]
      have S := silent_l0 (allS a l).1 (allS (colon a) l).1 (by omega) p3 p4 (allS a l).1.length 0 (Nat.sub_le _ _)
      have q2 : ((allS a l).2.2 != (allS (colon a) l).2.2) = false := by rw [p2]; simp
      refine Ev.step (f := fun k => (getopts_All.f k a l).bind fun bt339 => (if 1 + a.size ≤ 9223372036854775807 then ((getopts_All.f k (colon a) l).bind fun bt344 => (if (bt339.1.length : Int) = (bt344.1.length : Int) then (if bt339.2.1 = bt344.2.1 then (jobshelllaw16_GetoptsSilent.j1 k bt339.1 bt344.1 (bt339.2.2 != bt344.2.2)) else (none)) else (none))) else (none))) (fun k => ?_) (Ev.bind A1 ?_)
      · simp only [jobshelllaw16_GetoptsSilent.j0, Bool.false_eq_true, if_false]
        rfl
      · simp only [if_pos q1]
        refine Ev.bind A2 ?_
        simp only [if_pos q3, if_pos p1, q2]
        refine Ev.step (fun k => ?_) S
        simp only [jobshelllaw16_GetoptsSilent.j1, Bool.false_eq_true, if_false]
        rfl

end Go.Proofs.Ytgplhdgimckfjaa.Pure
