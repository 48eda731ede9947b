/- Natural numbers as lists of limbs in base 1000000000, the least first: plain facts. It speaks of no program. -/
namespace Go.Proofs.Ytkhcblheekfdmaa

/-- The base. -/
def BB : Int := 1000000000
theorem BB_eq : BB = 1000000000 := rfl
theorem BB_pos : 0 < BB := by decide

/-- The value of a list of limbs. -/
def val : List Int → Int
  | [] => 0
  | d :: l => d + BB * val l

/-- Each limb is in range. -/
def IsL (l : List Int) : Prop := ∀ d ∈ l, 0 ≤ d ∧ d < 1000000000

/-- BB to the k. -/
def bp : Nat → Int
  | 0 => 1
  | k + 1 => BB * bp k

theorem bp_pos (k : Nat) : 0 < bp k := by
  induction k with
  | zero => decide
  | succ k ih => exact Int.mul_pos BB_pos ih

theorem bp_add (a b : Nat) : bp (a + b) = bp a * bp b := by
  induction a with
  | zero => simp [bp]
  | succ a ih => rw [Nat.succ_add, bp, bp, ih, Int.mul_assoc]

theorem bp_mono {a b : Nat} (h : a ≤ b) : bp a ≤ bp b := by
  obtain ⟨c, rfl⟩ := Nat.exists_eq_add_of_le h
  rw [bp_add]
  have h1 := bp_pos a
  have h2 := bp_pos c
  have : bp a * 1 ≤ bp a * bp c := Int.mul_le_mul_of_nonneg_left (by omega) (by omega)
  omega

theorem val_append (a b : List Int) : val (a ++ b) = val a + bp a.length * val b := by
  induction a with
  | nil => simp [val, bp]
  | cons d l ih => simp only [List.cons_append, val, ih, List.length_cons, bp, Int.mul_add, Int.mul_assoc]; omega

theorem val_snoc (a : List Int) (d : Int) : val (a ++ [d]) = val a + bp a.length * d := by
  rw [val_append]; simp [val]

theorem IsL.cons {d : Int} {l : List Int} (h : IsL (d :: l)) : (0 ≤ d ∧ d < 1000000000) ∧ IsL l := ⟨h d (by simp), fun e he => h e (by simp [he])⟩
theorem IsL.mk {d : Int} {l : List Int} (h : 0 ≤ d ∧ d < 1000000000) (k : IsL l) : IsL (d :: l) := by
  intro e he
  rcases List.mem_cons.1 he with rfl | he
  · exact h
  · exact k e he
theorem IsL.app {a b : List Int} (h : IsL a) (k : IsL b) : IsL (a ++ b) := by
  intro e he
  rcases List.mem_append.1 he with he | he
  · exact h e he
  · exact k e he
theorem IsL.left {a b : List Int} (h : IsL (a ++ b)) : IsL a := fun e he => h e (List.mem_append.2 (.inl he))
theorem IsL.right {a b : List Int} (h : IsL (a ++ b)) : IsL b := fun e he => h e (List.mem_append.2 (.inr he))
theorem IsL.nil : IsL [] := fun _ h => by cases h
theorem IsL.one {d : Int} (h : 0 ≤ d ∧ d < 1000000000) : IsL [d] := IsL.mk h IsL.nil
theorem IsL.take {l : List Int} (h : IsL l) (k : Nat) : IsL (l.take k) := fun e he => h e (List.mem_of_mem_take he)
theorem IsL.drop {l : List Int} (h : IsL l) (k : Nat) : IsL (l.drop k) := fun e he => h e (List.mem_of_mem_drop he)
theorem IsL.get {l : List Int} (h : IsL l) (k : Nat) : 0 ≤ l.getD k 0 ∧ l.getD k 0 < 1000000000 := by
  rw [List.getD_eq_getElem?_getD]
  cases hk : l[k]? with
  | none => simp
  | some d => exact h d (List.mem_of_getElem? hk)

theorem val_nonneg {l : List Int} (h : IsL l) : 0 ≤ val l := by
  induction l with
  | nil => simp [val]
  | cons d l ih =>
    obtain ⟨h1, h2⟩ := h.cons
    have := Int.mul_nonneg (Int.le_of_lt BB_pos) (ih h2)
    simp only [val]
    omega

theorem val_lt {l : List Int} (h : IsL l) : val l < bp l.length := by
  induction l with
  | nil => simp [val, bp]
  | cons d l ih =>
    obtain ⟨h1, h2⟩ := h.cons
    have := ih h2
    have h3 : BB * (val l + 1) ≤ BB * bp l.length := Int.mul_le_mul_of_nonneg_left (by omega) (Int.le_of_lt BB_pos)
    simp only [val, List.length_cons, bp]
    rw [Int.mul_add] at h3
    have := BB_eq
    omega

/-- A natural number: no zero limb at the end. -/
def Can (l : List Int) : Prop := IsL l ∧ (l = [] ∨ bp (l.length - 1) ≤ val l)

theorem val_ge_last {a : List Int} {d : Int} (h : IsL a) (hd : 1 ≤ d) : bp a.length ≤ val (a ++ [d]) := by
  rw [val_snoc]
  have h1 := val_nonneg h
  have h2 : bp a.length * 1 ≤ bp a.length * d := Int.mul_le_mul_of_nonneg_left hd (Int.le_of_lt (bp_pos _))
  omega

theorem can_iff_last {a : List Int} {d : Int} (h : IsL (a ++ [d])) : Can (a ++ [d]) ↔ d ≠ 0 := by
  have hd := h d (by simp)
  constructor
  · rintro ⟨_, h1 | h1⟩ rfl
    · simp at h1
    · rw [val_snoc] at h1
      have := val_lt h.left
      simp at h1
      omega
  · intro hne
    exact ⟨h, .inr (by simpa using val_ge_last h.left (by omega))⟩

theorem Can.nil : Can [] := ⟨IsL.nil, .inl rfl⟩

theorem can_ext : ∀ {a b : List Int}, IsL a → IsL b → a.length = b.length → val a = val b → a = b
  | [], [], _, _, _, _ => rfl
  | [], _ :: _, _, _, h, _ => by simp at h
  | _ :: _, [], _, _, h, _ => by simp at h
  | d :: a, e :: b, ha, hb, hl, hv => by
    obtain ⟨h1, h2⟩ := ha.cons
    obtain ⟨h3, h4⟩ := hb.cons
    simp only [val, BB] at hv
    have e1 : d = e := by omega
    have e2 : val a = val b := by omega
    rw [e1, can_ext h2 h4 (by simpa using hl) e2]

theorem can_len {a b : List Int} (ha : Can a) (hb : Can b) (h : val a ≤ val b) : a.length ≤ b.length := by
  rcases ha.2 with rfl | h1
  · simp
  · apply Nat.le_of_not_lt
    intro hlt
    have h2 := val_lt hb.1
    have h3 := bp_mono (show b.length ≤ a.length - 1 by omega)
    omega

theorem can_inj {a b : List Int} (ha : Can a) (hb : Can b) (h : val a = val b) : a = b :=
  can_ext ha.1 hb.1 (Nat.le_antisymm (can_len ha hb (by omega)) (can_len hb ha (by omega))) h

/-- The limbs of a number. -/
def limbsF : Nat → Nat → List Int
  | 0, _ => []
  | f + 1, n => if n = 0 then [] else ((n % 1000000000 : Nat) : Int) :: limbsF f (n / 1000000000)
def limbs (n : Nat) : List Int := limbsF n n

theorem limbsF_val : ∀ (f n : Nat), n ≤ f → val (limbsF f n) = n
  | 0, n, h => by obtain rfl : n = 0 := by omega
                  rfl
  | f + 1, n, h => by
    unfold limbsF
    split
    · simp [val]; omega
    · rw [val, limbsF_val f (n / 1000000000) (by omega), BB_eq]; omega

theorem limbsF_isL : ∀ (f n : Nat), IsL (limbsF f n)
  | 0, n => IsL.nil
  | f + 1, n => by
    unfold limbsF
    split
    · exact IsL.nil
    · exact IsL.mk (by omega) (limbsF_isL f _)

theorem limbsF_can : ∀ (f n : Nat), n ≤ f → Can (limbsF f n)
  | 0, n, h => Can.nil
  | f + 1, n, h => by
    refine ⟨limbsF_isL _ _, ?_⟩
    rcases (limbsF_can f (n / 1000000000) (by omega)).2 with h1 | h1
    · unfold limbsF
      split
      · exact .inl rfl
      · rw [h1]; right; simp [bp, val]; 
        have := limbsF_val f (n / 1000000000) (by omega)
        rw [h1] at this
        simp [val] at this
        omega
    · unfold limbsF
      split
      · exact .inl rfl
      · right
        simp only [List.length_cons, Nat.add_sub_cancel, val]
        have h3 : BB * bp ((limbsF f (n / 1000000000)).length - 1) ≤ BB * val (limbsF f (n / 1000000000)) := Int.mul_le_mul_of_nonneg_left h1 (Int.le_of_lt BB_pos)
        cases hl : (limbsF f (n / 1000000000)).length with
        | zero =>
          have : limbsF f (n / 1000000000) = [] := List.eq_nil_of_length_eq_zero hl
          have h4 := limbsF_val f (n / 1000000000) (by omega)
          rw [this] at h4 ⊢
          simp [val] at h4
          simp [bp, val]
          omega
        | succ m =>
          rw [hl] at h3
          simp only [Nat.add_sub_cancel] at h3
          rw [bp]
          omega

theorem limbs_val (n : Nat) : val (limbs n) = n := limbsF_val n n (Nat.le_refl _)
theorem limbs_can (n : Nat) : Can (limbs n) := limbsF_can n n (Nat.le_refl _)
theorem limbs_isL (n : Nat) : IsL (limbs n) := (limbs_can n).1
theorem can_limbs {l : List Int} {n : Nat} (h : Can l) (hv : val l = n) : l = limbs n := can_inj h (limbs_can n) (by rw [hv, limbs_val])
theorem can_of {l : List Int} (h : Can l) : l = limbs (val l).toNat := can_limbs h (by have := val_nonneg h.1; omega)
theorem limbs_zero : limbs 0 = [] := rfl
theorem limbs_inj {a b : Nat} (h : limbs a = limbs b) : a = b := by
  have := limbs_val a
  rw [h, limbs_val] at this
  omega
theorem limbs_nil {n : Nat} : limbs n = [] ↔ n = 0 := ⟨fun h => limbs_inj (h.trans limbs_zero.symm), fun h => by rw [h]; rfl⟩
theorem limbs_one {n : Nat} (h0 : n ≠ 0) (h : n < 1000000000) : limbs n = [(n : Int)] := by
  refine (can_limbs (n := n) ⟨IsL.one (by omega), .inr ?_⟩ (by simp [val])).symm
  simp [val, bp]
  omega
theorem limbs_lt (n : Nat) : (n : Int) < bp (limbs n).length := by
  have := val_lt (limbs_isL n)
  rwa [limbs_val] at this
theorem limbs_ge {n : Nat} (h : n ≠ 0) : bp ((limbs n).length - 1) ≤ n := by
  rcases (limbs_can n).2 with h1 | h1
  · exact absurd (limbs_nil.1 h1) h
  · rwa [limbs_val] at h1
theorem limbs_len_le {n k : Nat} : (limbs n).length ≤ k ↔ (n : Int) < bp k := by
  constructor
  · intro h
    have := limbs_lt n
    have := bp_mono h
    omega
  · intro h
    apply Nat.le_of_not_lt
    intro hlt
    by_cases h0 : n = 0
    · subst h0
      rw [limbs_zero] at hlt
      simp at hlt
    · have := limbs_ge h0
      have := bp_mono (show k ≤ (limbs n).length - 1 by omega)
      omega
theorem limbs_len_mono {a b : Nat} (h : a ≤ b) : (limbs a).length ≤ (limbs b).length :=
  limbs_len_le.2 (by have := limbs_lt b; omega)
theorem limbs_last {n : Nat} {l : List Int} {d : Int} (h : limbs n = l ++ [d]) : d ≠ 0 := by
  have h1 := limbs_can n
  rw [h] at h1
  exact (can_iff_last h1.1).1 h1

/-- Without the zero limbs at the end. -/
theorem val_replicate_zero (k : Nat) : val (List.replicate k 0) = 0 := by
  induction k with
  | zero => rfl
  | succ k ih => simp [List.replicate_succ, val, ih]

theorem trim_limbs {l : List Int} {n m : Nat} (h : IsL l) (hv : val l = n) (hm : m ≤ l.length) (hz : ∀ i, m ≤ i → i < l.length → l.getD i 0 = 0) (hlast : m = 0 ∨ l.getD (m - 1) 0 ≠ 0) : l.take m = limbs n := by
  have h1 : l.drop m = List.replicate (l.length - m) 0 := by
    apply List.ext_getElem?
    intro i
    rw [List.getElem?_drop, List.getElem?_replicate]
    by_cases hi : m + i < l.length
    · have := hz (m + i) (by omega) hi
      rw [List.getD_eq_getElem?_getD, List.getElem?_eq_getElem hi] at this
      rw [List.getElem?_eq_getElem hi, if_pos (by omega)]
      simpa using this
    · rw [List.getElem?_eq_none (by omega), if_neg (by omega)]
  have h2 : val (l.take m) = n := by
    have := val_append (l.take m) (l.drop m)
    rw [List.take_append_drop, h1, val_replicate_zero] at this
    omega
  refine can_limbs ⟨h.take m, ?_⟩ h2
  rcases hlast with rfl | hl
  · left; simp
  · by_cases h0 : m = 0
    · left; rw [h0]; simp
    · right
      have hlt : m - 1 < l.length := by omega
      have e : l.take m = l.take (m - 1) ++ [l.getD (m - 1) 0] := by
        rw [List.getD_eq_getElem?_getD, List.getElem?_eq_getElem hlt, Option.getD_some]
        have := List.take_succ_eq_append_getElem hlt
        rwa [show m - 1 + 1 = m by omega] at this
      have hd := h.get (m - 1)
      have h3 := val_ge_last (a := l.take (m - 1)) (d := l.getD (m - 1) 0) (h.take _) (by omega)
      rw [← e] at h3
      rw [List.length_take] at h3 ⊢
      rw [show min (m - 1) l.length = m - 1 by omega] at h3
      rw [show min m l.length - 1 = m - 1 by omega]
      exact h3
      
end Go.Proofs.Ytkhcblheekfdmaa
