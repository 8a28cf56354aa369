/- Plain lemmas for chapter 16: getopts.Next comes to one function, nextS. No conditions beyond those written at each. -/
import Derived.Test.YtgplhdgimckfjaaLem3
import Derived.Test.YtgplhdgimckfjaaQ9
set_option linter.unusedVariables false
set_option linter.unusedSimpArgs false
namespace Go.Proofs.Ytgplhdgimckfjaa.Pure
open Go.RowKit Go.Proofs.Ytgplhdgimckfjaa.Q Go.Proofs.YtgplhdgimckfjaaW.PrintWords Go.Proofs.YtgplhdgimckfjaaW.PrintLast

abbrev OptT := ByteArray × ByteArray × Int × ByteArray × Int × Int
abbrev NextT := ByteArray × ByteArray × Int × ByteArray × Int × Int × Int
def ill : ByteArray := (⟨#[105, 108, 108, 101, 103, 97, 108, 32, 111, 112, 116, 105, 111, 110, 32, 45, 45, 32]⟩ : ByteArray)
def req : ByteArray := (⟨#[111, 112, 116, 105, 111, 110, 32, 114, 101, 113, 117, 105, 114, 101, 115, 32, 97, 110, 32, 97, 114, 103, 117, 109, 101, 110, 116, 32, 45, 45, 32]⟩ : ByteArray)
def em : ByteArray := (⟨#[]⟩ : ByteArray)
def qm : ByteArray := (⟨#[63]⟩ : ByteArray)
def co : ByteArray := (⟨#[58]⟩ : ByteArray)

/-- What stands at a state, as an option: arg is the argument, c the letter, kt what the specification says of it, more: are there letters behind it? -/
def optP (kt : Bool × Bool) (si more : Bool) (c arg next : ByteArray) (n : Nat) (idx off : Int) : OptT :=
  if kt.1 = true then
    (if kt.2 = true then
      (if more = true then (c, arg.extract (off + 1).toNat arg.size, 0, em, idx + 1, 0)
       else (if idx < (n : Int) then (c, next, 0, em, idx + 2, 0)
             else (if si = true then (co, c, 2, em, idx + 1, 0) else (qm, em, 2, req ++ c, idx + 1, 0))))
     else (if more = true then (c, em, 0, em, idx, off + 1) else (c, em, 0, em, idx + 1, 0)))
  else (if si = true then (if more = true then (qm, c, 2, em, idx, off + 1) else (qm, c, 2, em, idx + 1, 0))
        else (if more = true then (qm, em, 2, ill ++ c, idx, off + 1) else (qm, em, 2, ill ++ c, idx + 1, 0)))
def argS (l : List ByteArray) (idx : Int) : ByteArray := rdOf ByteArray.empty l (idx - 1)
def chS (arg : ByteArray) (off : Int) : ByteArray := arg.extract off.toNat (off + 1).toNat
def moreS (arg : ByteArray) (off : Int) : Bool := decide (off + 1 < (arg.size : Int))
def optS (a : ByteArray) (l : List ByteArray) (idx off : Int) : OptT :=
  optP (lookL (lets a) (bt (argS l idx) off)) (sil a) (moreS (argS l idx) off) (chS (argS l idx) off) (argS l idx) (rdOf ByteArray.empty l idx) l.length idx off

theorem g_j1 (l : List ByteArray) (si : Bool) (arg c : ByteArray) (kt : Bool × Bool) (idx off b0 b1 : Int) (hc : c.size = 1) (hi : 1 ≤ idx ∧ idx ≤ 1000) (ho : 0 ≤ off ∧ off < (arg.size : Int) ∧ arg.size ≤ 1000)
    (hb : (b0, b1) = if moreS arg off = true then (idx, off + 1) else (idx + 1, 0)) (k : Nat) :
    getopts_option.j1 (k + 1) l si arg c kt.1 kt.2 (if kt.1 = true then false else si) idx off b0 b1 = some (optP kt si (moreS arg off) c arg (rdOf ByteArray.empty l idx) l.length idx off) := by
  have w1 : wrap64 (off + 1) = off + 1 := w64 (by omega) (by omega)
  have w2 : wrap64 (idx + 1) = idx + 1 := w64 (by omega) (by omega)
  have w3 : wrap64 (idx + 2) = idx + 2 := w64 (by omega) (by omega)
  have z1 : 0 ≤ off + 1 := by omega
  have z2 : off + 1 ≤ (arg.size : Int) := by omega
  have z3 : 0 ≤ idx := by omega
  have z4 : 31 + c.size ≤ 9223372036854775807 := by omega
  have z5 : 18 + c.size ≤ 9223372036854775807 := by omega
  obtain ⟨k1, k2⟩ := kt
  simp only [getopts_option.j1, w1, w2, w3]
  have e : moreS arg off = decide (off + 1 < (arg.size : Int)) := rfl
  unfold optP
  generalize hm : moreS arg off = m at hb e ⊢
  cases m
  · have hm' : ¬ (off + 1 < (arg.size : Int)) := by simpa using e.symm
    simp only [Bool.false_eq_true, if_false, Prod.mk.injEq] at hb
    obtain ⟨rfl, rfl⟩ := hb
    cases k1 <;> cases k2 <;> cases si <;> simp only [Bool.false_eq_true, if_false, if_true, hm', z1, z2, z3, z4, z5]
    all_goals first | rfl | (split <;> first | rfl | omega)
  · have hm' : off + 1 < (arg.size : Int) := by simpa using e.symm
    simp only [if_true, Prod.mk.injEq] at hb
    obtain ⟨rfl, rfl⟩ := hb
    cases k1 <;> cases k2 <;> cases si <;> simp only [Bool.false_eq_true, if_false, if_true, hm', z1, z2, z3, z4, z5]
    all_goals first | rfl | (split <;> first | rfl | omega)
theorem ch_one (arg : ByteArray) (off : Int) (ho : 0 ≤ off ∧ off < (arg.size : Int)) : (chS arg off).size = 1 ∧ bt (chS arg off) 0 = bt arg off := by
  obtain ⟨o, rfl⟩ : ∃ o : Nat, off = o := ⟨off.toNat, by omega⟩
  have h1 : ((o : Int)).toNat = o := by omega
  have h2 : ((o : Int) + 1).toNat = o + 1 := by omega
  unfold chS
  rw [h1, h2]
  exact ⟨size_one arg o (by omega), bt_one arg o (by omega)⟩

theorem opt_ev (a : ByteArray) (l : List ByteArray) (idx off : Int) (hn : a.size ≤ 140737488351232) (hv : vS a ≠ 6) (hl : l.length ≤ 1000) (hi : 1 ≤ idx ∧ idx ≤ (l.length : Int))
    (ho : 0 ≤ off ∧ off < ((argS l idx).size : Int) ∧ (argS l idx).size ≤ 1000) : Ev (fun k => getopts_option.f k a l idx off) (optS a l idx off) := by
  have w0 : wrap64 (idx - 1) = idx - 1 := w64 (by omega) (by omega)
  have w1 : wrap64 (off + 1) = off + 1 := w64 (by omega) (by omega)
  have w2 : wrap64 (idx + 1) = idx + 1 := w64 (by omega) (by omega)
  obtain ⟨c1, c2⟩ := ch_one (argS l idx) off ⟨ho.1, ho.2.1⟩
  have z0 : 0 ≤ idx - 1 := by omega
  have z1 : idx - 1 < (l.length : Int) := by omega
  have z2 : off ≤ off + 1 := by omega
  have z3 : off + 1 ≤ ((argS l idx).size : Int) := by omega
  have z4 : 0 ≤ off := ho.1
  have hii : 1 ≤ idx ∧ idx ≤ 1000 := by omega
  have hj : ∀ b0 b1, ((b0, b1) = if moreS (argS l idx) off = true then (idx, off + 1) else (idx + 1, 0)) →
      Ev (fun k => getopts_option.j0 k l (spl a) (sil a) (argS l idx) (chS (argS l idx) off) idx off b0 b1) (optS a l idx off) := by
    intro b0 b1 hb
    have hc0 : 0 < ((chS (argS l idx) off).size : Int) := by omega
    have J : Ev (fun k => getopts_option.j1 k l (sil a) (argS l idx) (chS (argS l idx) off) (lookL (lets a) (bt (argS l idx) off)).1 (lookL (lets a) (bt (argS l idx) off)).2
        (if (lookL (lets a) (bt (argS l idx) off)).1 = true then false else sil a) idx off b0 b1) (optS a l idx off) :=
      ev_at1 fun k => g_j1 l (sil a) (argS l idx) (chS (argS l idx) off) _ idx off b0 b1 c1 hii ho hb k
    refine Ev.step (fun k => by simp only [getopts_option.j0]; rw [if_pos hc0, c2]) (Ev.bind (glook_ev a hn hv (bt (argS l idx) off)) ?_)
    generalize lookL (lets a) (bt (argS l idx) off) = kt at J ⊢
    obtain ⟨k1, k2⟩ := kt
    cases k1
    · simpa only [Bool.false_eq_true, if_false] using J
    · simpa only [if_true] using J
  have e : ∀ k, getopts_option.f k a l idx off = if off + 1 = ((argS l idx).size : Int) then getopts_option.j0 k l (spl a) (sil a) (argS l idx) (chS (argS l idx) off) idx off (idx + 1) 0
      else getopts_option.j0 k l (spl a) (sil a) (argS l idx) (chS (argS l idx) off) idx off idx (off + 1) := by
    intro k
    unfold getopts_option.f
    rw [split_eq, Option.bind_some]
    simp only [w0, w1, w2]
    rw [if_pos z0, if_pos z1, if_pos z4, if_pos z2]
    have z3' : off + 1 ≤ ((rdOf ByteArray.empty l (idx - 1)).size : Int) := z3
    rw [if_pos z3']
    rfl
  simp only [e]
  by_cases h : off + 1 = ((argS l idx).size : Int)
  · simp only [if_pos h]
    refine hj _ _ ?_
    have : moreS (argS l idx) off = false := by unfold moreS; simp; omega
    rw [this]
    rfl
  · simp only [if_neg h]
    refine hj _ _ ?_
    have : moreS (argS l idx) off = true := by unfold moreS; simp; omega
    rw [this]
    rfl

def ex (t : OptT) : NextT := (t.1, t.2.1, t.2.2.1, t.2.2.2.1, t.2.2.2.2.1, t.2.2.2.2.2, 0)
/-- What Next returns. -/
def nextS (a : ByteArray) (l : List ByteArray) (idx off : Int) : NextT :=
  if vS a ≠ 0 then (em, em, 0, em, 0, 0, vS a)
  else if idx < 1 ∨ off < 0 ∨ (0 < off ∧ ((l.length : Int) < idx ∨ ((argS l idx).size : Int) ≤ off)) then (em, em, 0, em, 0, 0, 2)
  else if off = 0 then
    (if (l.length : Int) < idx ∨ (argS l idx).size < 2 ∨ bt (argS l idx) 0 ≠ 45 then (qm, em, 1, em, idx, off, 0)
     else if (argS l idx).toList = ([45, 45] : List UInt8) then (qm, em, 1, em, idx + 1, 0, 0)
     else ex (optS a l idx 1))
  else ex (optS a l idx off)

theorem arg_small {l : List ByteArray} (hs : ∀ s ∈ l, s.size ≤ 1000) (idx : Int) : (argS l idx).size ≤ 1000 := by
  unfold argS rdOf
  rw [List.getD_eq_getElem?_getD]
  cases h : l[(idx - 1).toNat]? with
  | none => exact Nat.zero_le _
  | some s => exact hs s (List.mem_of_getElem? h)

theorem next_ev (a : ByteArray) (l : List ByteArray) (idx off : Int) (hn : a.size ≤ 140737488351232) (hl : l.length ≤ 1000) (hs : ∀ s ∈ l, s.size ≤ 1000)
    (hw : -9223372036854775808 ≤ idx ∧ idx ≤ 9223372036854775807) (hw2 : -9223372036854775808 ≤ off ∧ off ≤ 9223372036854775807) :
    Ev (fun k => getopts_Next.f k a l idx off) (nextS a l idx off) := by
  unfold getopts_Next.f nextS
  rw [gvalid_eq a hn]
  simp only [Option.bind_some]
  by_cases hv : vS a = 0
  · rw [if_neg (Classical.not_not.mpr hv)]
    simp only [if_pos hv]
    have hv6 : vS a ≠ 6 := by rw [hv]; decide
    have has := arg_small hs idx
    have hfits : getopts_fits.f l idx off = some (decide (¬ (idx < 1 ∨ off < 0 ∨ (0 < off ∧ ((l.length : Int) < idx ∨ ((argS l idx).size : Int) ≤ off))))) := by
      unfold getopts_fits.f
      by_cases h1 : idx < 1
      · rw [if_pos h1]; simp [h1]
      · rw [if_neg h1]
        by_cases h2 : off < 0
        · rw [if_pos h2]; simp [h2]
        · rw [if_neg h2]
          by_cases h3 : off = 0
          · rw [if_pos h3]; simp [h1, h3]
          · rw [if_neg h3]
            have h3' : 0 < off := by omega
            by_cases h4 : idx ≤ (l.length : Int)
            · have w0 : wrap64 (idx - 1) = idx - 1 := w64 (by omega) (by omega)
              have h4' : ¬ ((l.length : Int) < idx) := by omega
              have z0 : 0 ≤ idx - 1 := by omega
              have z1 : idx - 1 < (l.length : Int) := by omega
              rw [if_pos h4, w0, if_pos z0, if_pos z1]
              have : (off < ((rdOf ByteArray.empty l (idx - 1)).size : Int)) ↔ ¬ (((argS l idx).size : Int) ≤ off) := by unfold argS; omega
              simp [h1, h2, h3', h4', this]
            · rw [if_neg h4]
              have h4' : (l.length : Int) < idx := by omega
              simp [h1, h2, h3', h4']
    rw [hfits]
    simp only [Option.bind_some, decide_eq_true_eq]
    by_cases hq : (idx < 1 ∨ off < 0 ∨ (0 < off ∧ ((l.length : Int) < idx ∨ ((argS l idx).size : Int) ≤ off)))
    · rw [if_pos hq]
      simp only [if_neg (Classical.not_not.mpr hq)]
      exact ev_const
    · rw [if_neg hq]
      simp only [if_pos hq]
      clear hfits
      have w0 : wrap64 (idx - 1) = idx - 1 := w64 (by omega) (by omega)
      have z0 : 0 ≤ idx - 1 := by omega
      by_cases h0 : off = 0
      · subst h0
        simp only [if_true, w0]
        have stop : Ev (fun k => getopts_Next.j0 k a l true idx 0 (⟨#[63]⟩ : ByteArray) (⟨#[]⟩ : ByteArray) 1 (⟨#[]⟩ : ByteArray)) (qm, em, 1, em, idx, 0, 0) := ev_at1 fun k => by
          simp only [getopts_Next.j0, if_true]
          rfl
        by_cases h1 : idx > (l.length : Int)
        · simp only [if_pos h1]
          rw [if_pos (.inl h1)]
          exact stop
        · have z1 : idx - 1 < (l.length : Int) := by omega
          have h1' : ¬ ((l.length : Int) < idx) := h1
          simp only [if_neg h1, if_pos z0, if_pos z1]
          by_cases h2 : ((rdOf ByteArray.empty l (idx - 1)).size : Int) < 2
          · simp only [if_pos h2]
            have h2' : (argS l idx).size < 2 := by unfold argS; omega
            rw [if_pos (.inr (.inl h2'))]
            exact stop
          · have h2' : ¬ (argS l idx).size < 2 := by unfold argS; omega
            have z2 : 0 < ((rdOf ByteArray.empty l (idx - 1)).size : Int) := by omega
            simp only [if_neg h2, if_pos z2]
            change Ev (fun k => getopts_Next.j0 k a l (bt (argS l idx) 0 != 45) idx 0 (⟨#[63]⟩ : ByteArray) (⟨#[]⟩ : ByteArray) 1 (⟨#[]⟩ : ByteArray)) _
            by_cases h3 : bt (argS l idx) 0 = 45
            · have h3' : (bt (argS l idx) 0 != 45) = false := by simp [h3]
              rw [h3', if_neg (by rintro (h | h | h); exact h1' h; exact h2' h; exact h h3)]
              by_cases h4 : (argS l idx).toList = ([45, 45] : List UInt8)
              · rw [if_pos h4]
                refine ev_at1 fun k => ?_
                have w2 : wrap64 (idx + 1) = idx + 1 := w64 (by omega) (by omega)
                simp only [getopts_Next.j0, Bool.false_eq_true, if_false, w0, w2]
                rw [if_pos z0, if_pos z1, if_pos (show (rdOf ByteArray.empty l (idx - 1)).toList = ([45, 45] : List UInt8) from h4)]
                rfl
              · rw [if_neg h4]
                have O := opt_ev a l idx 1 hn hv6 hl (by omega) ⟨by decide, by omega, has⟩
                refine Ev.step (fun k => ?_) (Ev.bind (f := fun _ t => some (ex t)) O (ev_const (r := ex (optS a l idx 1))))
                simp only [getopts_Next.j0, Bool.false_eq_true, if_false, w0]
                rw [if_pos z0, if_pos z1, if_neg (show ¬ (rdOf ByteArray.empty l (idx - 1)).toList = ([45, 45] : List UInt8) from h4)]
                rfl
            · have h3' : (bt (argS l idx) 0 != 45) = true := by simp [h3]
              rw [h3', if_pos (.inr (.inr h3))]
              exact stop
      · rw [if_neg h0]
        simp only [if_neg h0]
        have O := opt_ev a l idx off hn hv6 hl (by omega) ⟨by omega, by omega, has⟩
        exact Ev.bind (f := fun _ t => some (ex t)) O (ev_const (r := ex (optS a l idx off)))
  · rw [if_pos hv]
    simp only [if_neg hv]
    exact ev_const
end Go.Proofs.Ytgplhdgimckfjaa.Pure
