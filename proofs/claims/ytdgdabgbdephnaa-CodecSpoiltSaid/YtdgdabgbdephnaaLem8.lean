/- Plain lemmas for chapter 03: frames: what Seal writes (FR), how Open reads (OP), in both programs. No conditions beyond those written at each. -/
import Derived.Test.YtdgdabgbdephnaaLem6
import Derived.Test.YtdgdabgbdephnaaGOpen
import Derived.Test.YtdgdabgbdephnaaQ17
import Derived.Test.YtdgdabgbdephnaaQ18
set_option linter.unusedVariables false
set_option linter.unusedSimpArgs false
namespace Go.Proofs.Ytdgdabgbdephnaa.Pure
open Go.RowKit Go.Proofs.Ytdgdabgbdephnaa.Q Go.Proofs.YtdgdabgbdephnaaW.PrintWords Go.Proofs.YtdgdabgbdephnaaW.PrintLast Go.Proofs.YtdgdabgbdephnaaW.PrintMore

def four (s : Nat) : List Nat := [s / 16777216 % 256, s / 65536 % 256, s / 256 % 256, s % 256]
theorem four_ints (s : Nat) : Q.four_ (s : Int) = ints (four s) := by
  unfold Q.four_ four ints
  simp
theorem four_bytes (s : Nat) : ∀ b ∈ four s, b < 256 := by
  intro b hb
  unfold four at hb
  simp only [List.mem_cons, List.not_mem_nil, or_false] at hb
  omega
theorem four_inj {s s' : Nat} (h : s < 4294967296) (h' : s' < 4294967296) (e : four s = four s') : s = s' := by
  unfold four at e
  simp only [List.cons.injEq, and_true] at e
  omega
theorem ints_inj {a b : List Nat} (h : ints a = ints b) : a = b := by
  unfold ints at h
  exact (List.map_inj_right (f := fun n : Nat => (n : Int)) (fun x y e => Int.ofNat.inj e)).mp h
def FB (k : Nat) (t : List Nat) : List Nat := k :: (E (2 * t.length) ++ t)
def FR (k : Nat) (t : List Nat) : List Nat := FB k t ++ four (sum (FB k t))
/-- What Open reads. -/
def OP : List Nat → Except Int (Nat × List Nat × Nat)
  | [] => .error 28
  | h :: m => match LN m with
    | .error e => .error e
    | .ok x => if m.length - x.2 < 4 then .error 28 else if m.length - x.2 - 4 < x.1 then .error 28 else
      if four (sum (h :: m.take (x.2 + x.1))) = (m.drop (x.2 + x.1)).take 4 then .ok (h, (m.drop x.2).take x.1, x.2 + x.1 + 5) else .error 29
theorem OP_form {k n : Nat} {t f : List Nat} (hn : small n) (ht : t.length = n) (hf : f.length = 4) (r : List Nat) :
    OP (k :: (E (2 * n) ++ (t ++ (f ++ r)))) = if four (sum (k :: (E (2 * n) ++ t))) = f then .ok (k, t, (E (2 * n)).length + n + 5) else .error 29 := by
  rw [OP, LN_E hn]
  simp only
  have e1 : (E (2 * n) ++ (t ++ (f ++ r))).take ((E (2 * n)).length + n) = E (2 * n) ++ t := by
    rw [← List.append_assoc, List.take_left' (by rw [List.length_append, ht])]
  have e2 : (E (2 * n) ++ (t ++ (f ++ r))).drop ((E (2 * n)).length + n) = f ++ r := by
    rw [← List.append_assoc, List.drop_left' (by rw [List.length_append, ht])]
  rw [if_neg (by simp only [List.length_append]; omega), if_neg (by simp only [List.length_append]; omega), e1, e2, List.drop_left, List.take_left' ht, List.take_left' hf]
theorem OP_FR {k : Nat} {t : List Nat} (hn : small t.length) (r : List Nat) : OP (FR k t ++ r) = .ok (k, t, (FR k t).length) := by
  have e : FR k t ++ r = k :: (E (2 * t.length) ++ (t ++ (four (sum (FB k t)) ++ r))) := by
    unfold FR FB
    simp
  rw [e, OP_form hn rfl rfl]
  rw [if_pos (show four (sum (k :: (E (2 * t.length) ++ t))) = four (sum (FB k t)) from rfl)]
  unfold FR FB
  congr 3
  simp only [List.cons_append, List.length_cons, List.length_append, four, List.length_nil]
theorem OP_pre {k j : Nat} {t : List Nat} (hn : small t.length) (hj : j < (FR k t).length) : OP ((FR k t).take j) = .error 28 := by
  have e : FR k t = k :: (E (2 * t.length) ++ (t ++ four (sum (FB k t)))) := by
    unfold FR FB
    simp
  rw [e] at hj ⊢
  rw [List.length_cons] at hj
  match j, hj with
  | 0, _ => rfl
  | j + 1, hj =>
    rw [List.take_succ_cons, OP]
    rw [List.length_append] at hj
    by_cases c : j < (E (2 * t.length)).length
    · rw [List.take_append_of_le_length (Nat.le_of_lt c), LN_pre hn c]
    · obtain ⟨i, rfl⟩ : ∃ i, j = (E (2 * t.length)).length + i := ⟨j - (E (2 * t.length)).length, by omega⟩
      rw [List.take_length_add_append, LN_E hn]
      have h4 : (four (sum (FB k t))).length = 4 := rfl
      rw [List.length_append, h4] at hj
      simp only
      have hl : (E (2 * t.length) ++ List.take i (t ++ four (sum (FB k t)))).length = (E (2 * t.length)).length + i := by
        rw [List.length_append, List.length_take, List.length_append, h4]
        omega
      rw [hl]
      by_cases c2 : (E (2 * t.length)).length + i - (E (2 * t.length)).length < 4
      · rw [if_pos c2]
      · rw [if_neg c2, if_pos (by omega)]
theorem FB_bytes {k : Nat} {t : List Nat} (hk : k < 256) (hb : ∀ b ∈ t, b < 256) : ∀ b ∈ FB k t, b < 256 := fun b h => by
  rcases List.mem_cons.1 h with rfl | h
  · exact hk
  · exact bytes_app E_bytes hb b h
theorem FR_bytes {k : Nat} {t : List Nat} (hk : k < 256) (hb : ∀ b ∈ t, b < 256) : ∀ b ∈ FR k t, b < 256 := bytes_app (FB_bytes hk hb) (four_bytes _)
theorem FB_len {k : Nat} {t : List Nat} (h : t.length ≤ 1000000000) : (FB k t).length ≤ t.length + 11 := by
  have := E_len10 (z := 2 * t.length) (by omega)
  unfold FB
  rw [List.length_cons, List.length_append]
  omega
/-! ### both programs seal -/
theorem cSeal_eq {k : Nat} {t : List Nat} (hk : k < 256) (hb : ∀ b ∈ t, b < 256) (hl : t.length ≤ 1000000000) : codec_Seal.f (k : Int) (ints t) = some (ints (FR k t)) := by
  have hp := cPut_at (n := ((t.length : Nat) : Int)) ⟨by omega, by omega⟩ 20 (by omega)
  have hE := E_len10 (z := 2 * t.length) (by omega)
  have hz : zig (t.length : Int) = 2 * t.length := by
    unfold zig
    rw [if_neg (by omega)]
    omega
  rw [hz] at hp
  have hF := FB_len (k := k) hl
  unfold codec_Seal.f
  rw [if_neg (by omega), if_neg (by omega), ints_len, hp, Option.bind_some, ints_len, if_pos (by omega)]
  have e : [(k : Int) % 256] ++ ints (E (2 * t.length)) ++ ints t = ints (FB k t) := by
    rw [Int.emod_eq_of_lt (by omega) (by omega)]
    unfold FB ints
    simp
  rw [e, cSum_at (FB k t) (FB_bytes hk hb) (by omega) _ (by omega), Option.bind_some, four_ints, ← ints_app]
  rfl
theorem rfour_eq {s : Nat} (h : s < 4294967296) : jobshellref03_four.f (s : Int) = some (ints (four s)) := by
  unfold jobshellref03_four.f
  rw [Int.tdiv_eq_ediv_of_nonneg (by omega), Int.tdiv_eq_ediv_of_nonneg (by omega), Int.tdiv_eq_ediv_of_nonneg (by omega), w64 (by omega) (by omega), w64 (by omega) (by omega), w64 (by omega) (by omega)]
  unfold four ints
  simp
theorem rSeal_ev {k : Nat} {t : List Nat} (hk : k < 256) (hb : ∀ b ∈ t, b < 256) (hl : t.length ≤ 1000000000) : Ev (fun n => jobshellref03_Seal.f n (k : Int) (ints t)) (ints (FR k t)) := by
  have hp := rPut_ev (n := ((t.length : Nat) : Int)) ⟨by omega, by omega⟩
  have hE := E_len10 (z := 2 * t.length) (by omega)
  have hz : zig (t.length : Int) = 2 * t.length := by
    unfold zig
    rw [if_neg (by omega)]
    omega
  rw [hz] at hp
  have hF := FB_len (k := k) hl
  have hs := sum_lt (FB_bytes hk hb)
  unfold jobshellref03_Seal.f
  refine ev_else (by omega) ?_
  rw [decide_eq_false (by omega)]
  refine Ev.step (fun n => by rw [jobshellref03_Seal.j0, if_neg (by decide), ints_len]) ?_
  refine (ev_some (Ev.bind hp (ev_if (by rw [ints_len, List.length_singleton]; omega) (ev_some (ev_if (by rw [List.length_append, ints_len, List.length_singleton]; omega) (ev_some ?_))))))
  have e : [(k : Int) % 256] ++ ints (E (2 * t.length)) ++ ints t = ints (FB k t) := by
    rw [Int.emod_eq_of_lt (by omega) (by omega)]
    unfold FB ints
    simp
  rw [e]
  refine Ev.bind (rSum_ev (FB k t) (FB_bytes hk hb) (by omega)) (ev_given (rfour_eq hs) (ev_if (by rw [ints_len, ints_len, show (four (sum (FB k t))).length = 4 from rfl]; omega) ?_))
  rw [← ints_app]
  exact ev_const
/-! ### both programs open -/
def OPr (r : Except Int (Nat × List Nat × Nat)) : Int × List Int × Int × Int := match r with
  | .ok x => ((x.1 : Int), ints x.2.1, (x.2.2 : Int), 0)
  | .error e => (0, [], 0, e)
theorem LN_err {l : List Nat} {e : Int} (h : LN l = .error e) : e = 6 ∨ e = 28 := by
  unfold LN at h
  cases hd : D l 0 0 with
  | error e' =>
    rw [hd] at h
    have := D_err l 0 0 e' hd
    injection h with h
    omega
  | ok x =>
    rw [hd] at h
    simp only at h
    by_cases c : x.1 % 2 = 1
    · rw [if_pos c] at h
      injection h with h
      omega
    · rw [if_neg c] at h
      cases h
theorem cOpen_eq {l : List Nat} (hb : ∀ b ∈ l, b < 256) (hl : l.length ≤ 100000000) : codec_Open.f (ints l) = some (OPr (OP l)) := by
  match l, hb, hl with
  | [], _, _ => rfl
  | h :: m, hb, hl =>
    have hbm : ∀ b ∈ m, b < 256 := fun b hb' => hb b (List.mem_cons_of_mem _ hb')
    have hh := hb h List.mem_cons_self
    have hdec := decLen_eq hb (by omega) (p := 1) (by rw [List.length_cons]; omega)
    rw [show ((1 : Nat) : Int) = 1 from rfl, show (h :: m).drop 1 = m from rfl] at hdec
    unfold codec_Open.f
    rw [ints_len, if_neg (by rw [List.length_cons]; omega), hdec, OP]
    rw [List.length_cons] at hl ⊢
    cases hd : LN m with
    | error e => rfl
    | ok x =>
      obtain ⟨e1, e2, _⟩ := LN_unique hbm hd
      unfold LNp
      rw [Option.bind_some]
      simp only
      rw [if_pos (by omega)]
      by_cases c1 : m.length - x.2 < 4
      · rw [if_pos c1, if_pos (by omega)]
        rfl
      rw [if_neg c1, if_neg (by omega)]
      by_cases c2 : m.length - x.2 - 4 < x.1
      · rw [if_pos c2, if_pos (by omega)]
        rfl
      rw [if_neg c2, if_neg (by omega)]
      have q1 : (((1 + x.2 : Nat) : Int) + (x.1 : Int)).toNat = 1 + x.2 + x.1 := by omega
      have q2 : (((1 + x.2 : Nat) : Int) + (x.1 : Int) + 4).toNat = 1 + x.2 + x.1 + 4 := by omega
      have q3 : (((1 + x.2 : Nat) : Int)).toNat = 1 + x.2 := by omega
      have t1 : (h :: m).take (1 + x.2 + x.1) = h :: m.take (x.2 + x.1) := by rw [show 1 + x.2 + x.1 = (x.2 + x.1) + 1 by omega, List.take_succ_cons]
      have t2 : (h :: m).drop (1 + x.2 + x.1) = m.drop (x.2 + x.1) := by rw [show 1 + x.2 + x.1 = (x.2 + x.1) + 1 by omega, List.drop_succ_cons]
      have t3 : (h :: m).drop (1 + x.2) = m.drop x.2 := by rw [show 1 + x.2 = x.2 + 1 by omega, List.drop_succ_cons]
      have hbt : ∀ b ∈ h :: m.take (x.2 + x.1), b < 256 := fun b hb' => by
        rcases List.mem_cons.1 hb' with rfl | hb'
        · exact hh
        · exact bytes_take hbm _ b hb'
      have hlt : (h :: m.take (x.2 + x.1)).length ≤ m.length + 1 := by rw [List.length_cons, List.length_take]; omega
      rw [q1, q2, q3, cut_eq _ (1 + x.2) x.1, cut_eq _ (1 + x.2 + x.1) 4, ints_take, t1, cSum_at _ hbt (by omega) _ (by omega), Option.bind_some, t2, t3, four_ints]
      by_cases c3 : four (sum (h :: m.take (x.2 + x.1))) = (m.drop (x.2 + x.1)).take 4
      · rw [if_pos c3, if_pos (by rw [c3])]
        have hr : wrap64 (rd (ints (h :: m)) 0) = (h : Int) := by
          have := rd_ints (h :: m) 0
          rw [show ((0 : Nat) : Int) = 0 from rfl] at this
          rw [this, show (h :: m).getD 0 0 = h from rfl, w64 (by omega) (by omega)]
        rw [hr]
        unfold OPr
        simp only
        congr 3
        congr 1
        omega
      · rw [if_neg c3, if_neg (fun e => c3 (ints_inj e))]
        rfl
theorem strOf_toList (a : List Nat) : (strOfNums (ints a)).toList = a.map UInt8.ofNat := by
  rw [Go.ByteArray.toList_eq, strOfNums_data]
  unfold ints
  rw [List.map_map]
  rfl
theorem same_dec {a b : List Nat} (ha : ∀ x ∈ a, x < 256) (hb : ∀ x ∈ b, x < 256) : jobshellref03_SameBytes.f (ints a) (ints b) = some (decide (a = b)) := by
  unfold jobshellref03_SameBytes.f
  congr 1
  by_cases c : a = b
  · subst c
    rw [decide_eq_true rfl, beq_self_eq_true]
  · rw [decide_eq_false c]
    refine beq_eq_false_iff_ne.mpr fun e => c ?_
    rw [← nums_str ha, ← nums_str hb]
    unfold nums str
    rw [← Go.ByteArray.toList_eq, ← Go.ByteArray.toList_eq, e]
end Go.Proofs.Ytdgdabgbdephnaa.Pure
