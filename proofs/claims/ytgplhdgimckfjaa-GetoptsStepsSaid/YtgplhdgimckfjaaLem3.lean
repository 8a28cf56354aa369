/- Plain lemmas for chapter 16: getopts.Valid and its reference answer alike; the searches from the specification itself. No conditions beyond those written at each. -/
import Derived.Test.YtgplhdgimckfjaaLem2
set_option linter.unusedVariables false
set_option linter.unusedSimpArgs false
namespace Go.Proofs.Ytgplhdgimckfjaa.Pure
open Go.RowKit Go.Proofs.Ytgplhdgimckfjaa.Q Go.Proofs.YtgplhdgimckfjaaW.PrintWords Go.Proofs.YtgplhdgimckfjaaW.PrintLast

theorem rd_set (met : List Bool) (hl : met.length = 256) (a b : Int) (ha : 0 ≤ a ∧ a < 256) (hb : 0 ≤ b ∧ b < 256) :
    rdOf false (met.set a.toNat true) b = true ↔ b = a ∨ rdOf false met b = true := by
  have h1 : a.toNat < met.length := by omega
  have h2 : b.toNat < met.length := by omega
  have h4 : b.toNat = a.toNat → b = a := fun h => by omega
  simp only [rdOf, List.getD_eq_getElem?_getD, List.getElem?_set]
  by_cases h3 : a.toNat = b.toNat
  · rw [if_pos h3, if_pos h1]
    simp [h4 h3.symm]
  · rw [if_neg h3]
    have : b ≠ a := fun h => h3 (by rw [h])
    simp [this]

theorem dupB_iff (L : List (Int × Bool)) : ∀ (met : List Bool), met.length = 256 → (∀ p ∈ L, 0 ≤ p.1 ∧ p.1 < 256) →
    (dupB met L = true ↔ (∃ p ∈ L, rdOf false met p.1 = true) ∨ ¬ (L.map (·.1)).Nodup) := by
  induction L with
  | nil => intro met _ _; simp [dupB]
  | cons p r ih =>
    intro met hl hr
    have hp := hr p (List.mem_cons_self ..)
    have hr' : ∀ q ∈ r, 0 ≤ q.1 ∧ q.1 < 256 := fun q hq => hr q (List.mem_cons_of_mem _ hq)
    simp only [dupB, Bool.or_eq_true]
    rw [ih (met.set p.1.toNat true) (by rw [List.length_set]; exact hl) hr']
    have e : (∃ q ∈ r, rdOf false (met.set p.1.toNat true) q.1 = true) ↔ (p.1 ∈ r.map (·.1)) ∨ ∃ q ∈ r, rdOf false met q.1 = true := by
      constructor
      · rintro ⟨q, hq, h⟩
        rcases (rd_set met hl p.1 q.1 hp (hr' q hq)).mp h with h | h
        · exact .inl (List.mem_map.mpr ⟨q, hq, h⟩)
        · exact .inr ⟨q, hq, h⟩
      · rintro (h | ⟨q, hq, h⟩)
        · obtain ⟨q, hq, h⟩ := List.mem_map.mp h
          exact ⟨q, hq, (rd_set met hl p.1 q.1 hp (hr' q hq)).mpr (.inl h)⟩
        · exact ⟨q, hq, (rd_set met hl p.1 q.1 hp (hr' q hq)).mpr (.inr h)⟩
    rw [e]
    simp only [List.map_cons, List.nodup_cons, List.mem_cons, exists_eq_or_imp]
    by_cases h1 : p.1 ∈ r.map (·.1) <;> by_cases h2 : rdOf false met p.1 = true <;> simp [h1, h2]

theorem letter_range {c : Int} (h : letterB c = true) : 0 ≤ c ∧ c < 256 := by
  unfold letterB at h
  simp only [Bool.or_eq_true, Bool.and_eq_true, decide_eq_true_eq] at h
  omega
theorem parse_letters (n : Nat) : ∀ (cs : List Int), cs.length ≤ n → ∀ L, parse cs = some L → ∀ p ∈ L, letterB p.1 = true := by
  induction n with
  | zero =>
    intro cs hn L h
    obtain rfl : cs = [] := List.length_eq_zero_iff.mp (by omega)
    obtain rfl : L = [] := by simpa [parse] using h.symm
    simp
  | succ n ih =>
    intro cs hn L h
    cases cs with
    | nil =>
      obtain rfl : L = [] := by simpa [parse] using h.symm
      simp
    | cons c r =>
      obtain ⟨hc, h⟩ := parse_shape h
      rcases h with ⟨r', L', rfl, h', rfl⟩ | ⟨_, L', h', rfl⟩
      · intro p hp
        rcases List.mem_cons.mp hp with rfl | hp
        · exact hc
        · exact ih r' (by simp at hn; omega) L' h' p hp
      · intro p hp
        rcases List.mem_cons.mp hp with rfl | hp
        · exact hc
        · exact ih r (by simp at hn; omega) L' h' p hp

/-- The answer of Valid. -/
def vP (o : Option (List (Int × Bool))) : Int :=
  match o with
  | none => 6
  | some L => if (L.map (·.1)).Nodup then 0 else 9

theorem vAns_P (cs : List Int) : vAns (parse cs) (List.replicate 256 false) false = vP (parse cs) := by
  cases h : parse cs with
  | none => rfl
  | some L =>
    have hl := parse_letters cs.length cs (Nat.le_refl _) L h
    have e := dupB_iff L (List.replicate 256 false) List.length_replicate fun p hp => letter_range (hl p hp)
    have e2 : ¬ ∃ p ∈ L, rdOf false (List.replicate 256 false) p.1 = true := by
      rintro ⟨p, hp, h⟩
      simp only [rdOf, List.getD_eq_getElem?_getD, List.getElem?_replicate] at h
      split at h <;> simp at h
    simp only [vAns, vP, Bool.false_or, e, e2, false_or]
    by_cases hn : (L.map (·.1)).Nodup
    · rw [if_pos hn, if_neg (fun h => h hn)]
    · rw [if_neg hn, if_pos hn]

/-! the reference's Valid -/
theorem rv_step (F : ByteArray) (hn : F.size ≤ 140737488351232) (i j : Nat) (hi : i < F.size) (hj : j < i) (k : Nat) :
    jobshellref16_Valid.l1 (k + 1) F i j = if bt F j = bt F i then some 9 else jobshellref16_Valid.l1 k F i ((j + 1 : Nat) : Int) := by
  have z1 : wrap64 ((j : Int) + 1) = ((j + 1 : Nat) : Int) := by rw [w64 (by omega) (by omega)]; omega
  have q0 : (j : Int) < (i : Int) := by omega
  have q1 : (0 : Int) ≤ (j : Int) := by omega
  have q2 : (j : Int) < (F.size : Int) := by omega
  have q3 : (0 : Int) ≤ (i : Int) := by omega
  have q4 : (i : Int) < (F.size : Int) := by omega
  simp only [jobshellref16_Valid.l1, z1]
  rw [if_pos q0, if_pos q1, if_pos q2, if_pos q3, if_pos q4]
theorem rv_next (F : ByteArray) (hn : F.size ≤ 140737488351232) (i : Nat) (hi : i < F.size) (k : Nat) : jobshellref16_Valid.l1 (k + 1) F i i = jobshellref16_Valid.l0 k F ((i + 1 : Nat) : Int) := by
  have z1 : wrap64 ((i : Int) + 1) = ((i + 1 : Nat) : Int) := by rw [w64 (by omega) (by omega)]; omega
  simp only [jobshellref16_Valid.l1, z1]
  rw [if_neg (by omega)]
theorem rv_in (F : ByteArray) (i : Nat) (hi : i < F.size) (k : Nat) : jobshellref16_Valid.l0 (k + 1) F i = jobshellref16_Valid.l1 k F i ((0 : Nat) : Int) := by
  simp only [jobshellref16_Valid.l0]
  rw [if_pos (by omega)]
  rfl
theorem rv_inner (F : ByteArray) (hn : F.size ≤ 140737488351232) (i : Nat) (hi : i < F.size) (r : Int) (h : Ev (fun k => jobshellref16_Valid.l0 k F ((i + 1 : Nat) : Int)) r) (d : Nat) :
    ∀ j : Nat, j ≤ i → i - j = d → (∀ j' : Nat, j ≤ j' → j' < i → bt F j' ≠ bt F i) → Ev (fun k => jobshellref16_Valid.l1 k F i j) r := by
  induction d with
  | zero =>
    intro j hj hd _
    obtain rfl : j = i := by omega
    exact Ev.step (rv_next F hn j hi) h
  | succ d ih =>
    intro j hj hd hne
    have hlt : j < i := by omega
    refine Ev.step (fun k => ?_) (ih (j + 1) hlt (by omega) fun j' h1 h2 => hne j' (by omega) h2)
    rw [rv_step F hn i j hi hlt, if_neg (hne j (Nat.le_refl _) hlt)]
theorem rv_hit (F : ByteArray) (hn : F.size ≤ 140737488351232) (i : Nat) (hi : i < F.size) (d : Nat) :
    ∀ j : Nat, j ≤ i → i - j = d → (∃ j' : Nat, j ≤ j' ∧ j' < i ∧ bt F j' = bt F i) → Ev (fun k => jobshellref16_Valid.l1 k F i j) 9 := by
  induction d with
  | zero =>
    rintro j hj hd ⟨j', h1, h2, _⟩
    omega
  | succ d ih =>
    rintro j hj hd ⟨j', h1, h2, h3⟩
    have hlt : j < i := by omega
    by_cases h : bt F j = bt F i
    · refine ev_at1 fun k => ?_
      rw [rv_step F hn i j hi hlt, if_pos h]
    · have hne : j ≠ j' := fun e => h (e ▸ h3)
      refine Ev.step (fun k => ?_) (ih (j + 1) hlt (by omega) ⟨j', by omega, h2, h3⟩)
      rw [rv_step F hn i j hi hlt, if_neg h]
theorem rv_outer (F : ByteArray) (hn : F.size ≤ 140737488351232) (d : Nat) : ∀ i : Nat, F.size - i ≤ d →
    ((∃ i' : Nat, i ≤ i' ∧ i' < F.size ∧ ∃ j' : Nat, j' < i' ∧ bt F j' = bt F i') → Ev (fun k => jobshellref16_Valid.l0 k F i) 9) ∧
    ((¬ ∃ i' : Nat, i ≤ i' ∧ i' < F.size ∧ ∃ j' : Nat, j' < i' ∧ bt F j' = bt F i') → Ev (fun k => jobshellref16_Valid.l0 k F i) 0) := by
  have done : ∀ i : Nat, F.size ≤ i → 
      ((∃ i' : Nat, i ≤ i' ∧ i' < F.size ∧ ∃ j' : Nat, j' < i' ∧ bt F j' = bt F i') → Ev (fun k => jobshellref16_Valid.l0 k F i) 9) ∧
      ((¬ ∃ i' : Nat, i ≤ i' ∧ i' < F.size ∧ ∃ j' : Nat, j' < i' ∧ bt F j' = bt F i') → Ev (fun k => jobshellref16_Valid.l0 k F i) 0) := by
    refine fun i h => ⟨fun ⟨i', h1, h2, _⟩ => by omega, fun _ => ev_at1 fun k => ?_⟩
    simp only [jobshellref16_Valid.l0]
    rw [if_neg (by omega)]
  induction d with
  | zero => exact fun i hd => done i (by omega)
  | succ d ih =>
    intro i hd
    rcases Nat.lt_or_ge i F.size with hlt | hge
    · have I := ih (i + 1) (sub1 hd)
      by_cases h : ∃ j' : Nat, 0 ≤ j' ∧ j' < i ∧ bt F j' = bt F i
      · have h9 : Ev (fun k => jobshellref16_Valid.l0 k F i) 9 := Ev.step (rv_in F i hlt) (rv_hit F hn i hlt i 0 (Nat.zero_le _) (Nat.sub_zero _) h)
        obtain ⟨j', _, h2, h3⟩ := h
        exact ⟨fun _ => h9, fun h => absurd ⟨i, Nat.le_refl _, hlt, j', h2, h3⟩ h⟩
      · have step : ∀ r, Ev (fun k => jobshellref16_Valid.l0 k F ((i + 1 : Nat) : Int)) r → Ev (fun k => jobshellref16_Valid.l0 k F i) r := fun r hr =>
          Ev.step (rv_in F i hlt) (rv_inner F hn i hlt r hr i 0 (Nat.zero_le _) (Nat.sub_zero _) fun j' _ h2 h3 => h ⟨j', Nat.zero_le _, h2, h3⟩)
        refine ⟨?_, ?_⟩
        · rintro ⟨i', h1, h2, j', h3, h4⟩
          have hne : i ≠ i' := fun e => h ⟨j', Nat.zero_le _, e ▸ h3, e ▸ h4⟩
          exact step 9 (I.1 ⟨i', by omega, h2, j', h3, h4⟩)
        · intro hno
          exact step 0 (I.2 fun ⟨i', h1, h2, r⟩ => hno ⟨i', by omega, h2, r⟩)
    · exact done i hge
theorem nodup_iff (F : ByteArray) : (bl F).Nodup ↔ ¬ ∃ i' : Nat, 0 ≤ i' ∧ i' < F.size ∧ ∃ j' : Nat, j' < i' ∧ bt F j' = bt F i' := by
  unfold List.Nodup
  rw [List.pairwise_iff_getElem]
  constructor
  · rintro h ⟨i', _, h2, j', h3, h4⟩
    have h5 : j' < F.size := Nat.lt_trans h3 h2
    have := h j' i' (by rw [bl_len]; exact h5) (by rw [bl_len]; exact h2) h3
    rw [bl_get F j' h5, bl_get F i' h2] at this
    exact this h4
  · intro h i j hi hj hij e
    rw [bl_len] at hi hj
    rw [bl_get F i hi, bl_get F j hj] at e
    exact h ⟨j, Nat.zero_le _, hj, i, hij, e⟩

/-! from the specification itself -/
def sil (a : ByteArray) : Bool := decide (0 < a.size) && (bt a 0 == 58)
def spl (a : ByteArray) : ByteArray := if sil a = true then a.extract 1 a.size else a
theorem toList_nil (a : ByteArray) : a.toList = ([] : List UInt8) ↔ a.size = 0 := by
  rw [Go.ByteArray.toList_eq]
  exact ⟨fun h => by have := congrArg List.length h; rw [Array.length_toList] at this; exact this, fun h => List.length_eq_zero_iff.mp (by rw [Array.length_toList]; exact h)⟩
theorem spl_size (a : ByteArray) : (spl a).size ≤ a.size := by
  unfold spl
  split
  · rw [ByteArray.size_extract]; omega
  · exact Nat.le_refl _
theorem split_eq (a : ByteArray) : getopts_split.f a = some (spl a, sil a) := by
  unfold getopts_split.f spl sil
  by_cases h : a.size = 0
  · rw [if_pos ((toList_nil a).mpr h)]
    have : ¬ (0 < a.size) := by omega
    simp [this]
  · rw [if_neg (fun h' => h ((toList_nil a).mp h')), if_pos (by omega)]
    have h1 : 0 < a.size := by omega
    by_cases h2 : bt a 0 = 58
    · rw [if_pos h2, if_pos (by omega)]
      simp [h1, h2]
    · rw [if_neg h2]
      simp [h1, h2]
theorem letters_f (a : ByteArray) (hn : a.size ≤ 140737488351232) :
    (parse (bl (spl a)) = none → Ev (fun k => jobshellref16_letters.f k a) ((⟨#[]⟩ : ByteArray), ([] : List Bool), false)) ∧
    (∀ L, parse (bl (spl a)) = some L → ∃ F, bl F = L.map (·.1) ∧ Ev (fun k => jobshellref16_letters.f k a) (F, L.map (·.2), true)) := by
  have key : ∀ r, Ev (fun k => jobshellref16_letters.l0 k (spl a) (⟨#[]⟩ : ByteArray) ([] : List Bool) ((0 : Nat) : Int)) r → Ev (fun k => jobshellref16_letters.f k a) r := by
    intro r hr
    have h1 : Ev (fun k => jobshellref16_letters.j1 k (spl a) (⟨#[]⟩ : ByteArray) ([] : List Bool)) r := Ev.step (fun k => by simp only [jobshellref16_letters.j1]; rfl) hr
    have h2 : Ev (fun k => jobshellref16_letters.j0 k a (⟨#[]⟩ : ByteArray) ([] : List Bool) (sil a)) r := by
      refine Ev.step (fun k => ?_) h1
      simp only [jobshellref16_letters.j0]
      unfold spl
      by_cases h : sil a = true
      · have h1 : 0 < a.size := by
          unfold sil at h
          simp only [Bool.and_eq_true, decide_eq_true_eq] at h
          exact h.1
        rw [if_pos h, if_pos h, if_pos (by omega)]
      · rw [if_neg h, if_neg h]
    have e : ∀ k, jobshellref16_letters.f k a = jobshellref16_letters.j0 k a (⟨#[]⟩ : ByteArray) ([] : List Bool) (sil a) := by
      intro k
      unfold jobshellref16_letters.f sil
      by_cases h : 0 < a.size
      · rw [if_pos (by omega), if_pos (by omega)]
        simp [h]
      · rw [if_neg (by omega)]
        simp [h]
    simp only [e]
    exact h2
  have hs := spl_size a
  have I := letters_ev (spl a) (Nat.le_trans hs hn) (spl a).size 0 (⟨#[]⟩ : ByteArray) ([] : List Bool) (Nat.zero_le _) (Nat.le_refl _) (Nat.le_refl _) (Nat.le_refl _) (.inl rfl)
  rw [List.drop_zero] at I
  refine ⟨fun h => key _ (I.1 h), fun L h => ?_⟩
  obtain ⟨F, h1, h2⟩ := I.2 L h
  exact ⟨F, by rw [h1]; rfl, key _ h2⟩

def vS (a : ByteArray) : Int := vP (parse (bl (spl a)))
theorem gvalid_eq (a : ByteArray) (hn : a.size ≤ 140737488351232) : getopts_Valid.f a = some (vS a) := by
  unfold getopts_Valid.f
  rw [split_eq, Option.bind_some]
  have := valid_l0 (spl a) (Nat.le_trans (spl_size a) hn) (spl a).size 0 ((spl a).size + 1) (List.replicate 256 false) false (Nat.le_refl _) (Nat.lt_succ_self _) (.inl rfl)
  rw [List.drop_zero, vAns_P] at this
  exact this
theorem rvalid_ev (a : ByteArray) (hn : a.size ≤ 140737488351232) : Ev (fun k => jobshellref16_Valid.f k a) (vS a) := by
  unfold jobshellref16_Valid.f vS
  have hs := Nat.le_trans (spl_size a) hn
  cases h : parse (bl (spl a)) with
  | none =>
    refine Ev.bind ((letters_f a hn).1 h) ?_
    simp only [Bool.false_eq_true, if_false]
    exact ev_const
  | some L =>
    obtain ⟨F, h1, h2⟩ := (letters_f a hn).2 L h
    refine Ev.bind h2 ?_
    simp only [if_true]
    have hF : F.size ≤ 140737488351232 := by
      have hlen : ∀ (n : Nat) (cs : List Int) (L : List (Int × Bool)), cs.length ≤ n → parse cs = some L → L.length ≤ cs.length := by
        intro n
        induction n with
        | zero =>
          intro cs L hn h
          obtain rfl : cs = [] := List.length_eq_zero_iff.mp (by omega)
          obtain rfl : L = [] := by simpa [parse] using h.symm
          exact Nat.le_refl _
        | succ n ih =>
          intro cs L hn h
          cases cs with
          | nil =>
            obtain rfl : L = [] := by simpa [parse] using h.symm
            exact Nat.le_refl _
          | cons c r =>
            obtain ⟨_, h⟩ := parse_shape h
            rcases h with ⟨r', L', rfl, h', rfl⟩ | ⟨_, L', h', rfl⟩
            · have := ih r' L' (by simp at hn; omega) h'
              simp
              omega
            · have := ih r L' (by simp at hn; omega) h'
              simp
              omega
      have := hlen _ _ L (Nat.le_refl _) h
      rw [bl_len] at this
      have e : F.size = L.length := by rw [← bl_len, h1, List.length_map]
      omega
    have I := rv_outer F hF F.size 0 (Nat.le_refl _)
    have hnd := nodup_iff F
    rw [h1] at hnd
    unfold vP
    by_cases hd : (L.map (·.1)).Nodup
    · simp only [if_pos hd]
      exact I.2 (hnd.mp hd)
    · simp only [if_neg hd]
      exact I.1 (Classical.not_not.mp fun h => hd (hnd.mpr h))

/-- The letters, and whether each takes an argument. -/
def lets (a : ByteArray) : List (Int × Bool) := (parse (bl (spl a))).getD []
theorem lets_of (a : ByteArray) (h : vS a ≠ 6) : parse (bl (spl a)) = some (lets a) := by
  unfold vS vP at h
  unfold lets
  cases hp : parse (bl (spl a)) with
  | none => rw [hp] at h; exact absurd rfl h
  | some L => rfl
theorem glook_ev (a : ByteArray) (hn : a.size ≤ 140737488351232) (h : vS a ≠ 6) (c : Int) : Ev (fun k => getopts_look.f k (spl a) c) (lookL (lets a) c) := by
  unfold getopts_look.f
  exact look_ev (spl a) (Nat.le_trans (spl_size a) hn) c (spl a).size 0 (lets a) (Nat.sub_le _ _) (by rw [List.drop_zero]; exact lets_of a h)
theorem parse_len (n : Nat) : ∀ (cs : List Int) (L : List (Int × Bool)), cs.length ≤ n → parse cs = some L → L.length ≤ cs.length := by
  induction n with
  | zero =>
    intro cs L hn h
    obtain rfl : cs = [] := List.length_eq_zero_iff.mp (by omega)
    obtain rfl : L = [] := by simpa [parse] using h.symm
    exact Nat.le_refl _
  | succ n ih =>
    intro cs L hn h
    cases cs with
    | nil =>
      obtain rfl : L = [] := by simpa [parse] using h.symm
      exact Nat.le_refl _
    | cons c r =>
      obtain ⟨_, h⟩ := parse_shape h
      rcases h with ⟨r', L', rfl, h', rfl⟩ | ⟨_, L', h', rfl⟩
      · have := ih r' L' (by simp at hn; omega) h'
        simp
        omega
      · have := ih r L' (by simp at hn; omega) h'
        simp
        omega
theorem rfind_ev (a : ByteArray) (hn : a.size ≤ 140737488351232) (h : vS a ≠ 6) (c : Int) : Ev (fun k => jobshellref16_find.f k a c) (lookL (lets a) c) := by
  unfold jobshellref16_find.f
  have hp := lets_of a h
  obtain ⟨F, h1, h2⟩ := (letters_f a hn).2 _ hp
  refine Ev.bind h2 ?_
  have hF : F.size ≤ 140737488351232 := by
    have h3 := parse_len _ _ _ (Nat.le_refl _) hp
    rw [bl_len] at h3
    have h4 : F.size = (lets a).length := by rw [← bl_len, h1, List.length_map]
    have h5 := spl_size a
    omega
  exact find_ev F hF _ (lets a) h1 rfl c F.size 0 (Nat.sub_le _ _)
end Go.Proofs.Ytgplhdgimckfjaa.Pure
