/- Several texts laid together; each has its own word at its head. -/
import Derived.Test.YtnbefpfijaimjaaGreatDoorGBase
/- Natural numbers as lists of limbs in base 1000000000, the least first: plain facts. It speaks of no program. -/
namespace Go.Proofs.YtnbefpfijaimjaaGreatDoor

/-- The base. -/
def BB : Int := 1000000000
theorem BB_eq : BB = 1000000000 := rfl
theorem BB_pos : 0 < BB := by decide

/-- The value of a list of limbs. -/
def val : List Int → Int
  | [] => 0
  | d :: l => d + BB * val l

/-- Each limb is in range. -/
def IsL (l : List Int) : Prop := ∀ d ∈ l, 0 ≤ d ∧ d < 1000000000

/-- BB to the k. -/
def bp : Nat → Int
  | 0 => 1
  | k + 1 => BB * bp k

theorem bp_pos (k : Nat) : 0 < bp k := by
  induction k with
  | zero => decide
  | succ k ih => exact Int.mul_pos BB_pos ih

theorem bp_add (a b : Nat) : bp (a + b) = bp a * bp b := by
  induction a with
  | zero => simp [bp]
  | succ a ih => rw [Nat.succ_add, bp, bp, ih, Int.mul_assoc]

theorem bp_mono {a b : Nat} (h : a ≤ b) : bp a ≤ bp b := by
  obtain ⟨c, rfl⟩ := Nat.exists_eq_add_of_le h
  rw [bp_add]
  have h1 := bp_pos a
  have h2 := bp_pos c
  have : bp a * 1 ≤ bp a * bp c := Int.mul_le_mul_of_nonneg_left (by omega) (by omega)
  omega

theorem val_append (a b : List Int) : val (a ++ b) = val a + bp a.length * val b := by
  induction a with
  | nil => simp [val, bp]
  | cons d l ih => simp only [List.cons_append, val, ih, List.length_cons, bp, Int.mul_add, Int.mul_assoc]; omega

theorem val_snoc (a : List Int) (d : Int) : val (a ++ [d]) = val a + bp a.length * d := by
  rw [val_append]; simp [val]

theorem IsL.cons {d : Int} {l : List Int} (h : IsL (d :: l)) : (0 ≤ d ∧ d < 1000000000) ∧ IsL l := ⟨h d (by simp), fun e he => h e (by simp [he])⟩
theorem IsL.mk {d : Int} {l : List Int} (h : 0 ≤ d ∧ d < 1000000000) (k : IsL l) : IsL (d :: l) := by
  intro e he
  rcases List.mem_cons.1 he with rfl | he
  · exact h
  · exact k e he
theorem IsL.app {a b : List Int} (h : IsL a) (k : IsL b) : IsL (a ++ b) := by
  intro e he
  rcases List.mem_append.1 he with he | he
  · exact h e he
  · exact k e he
theorem IsL.left {a b : List Int} (h : IsL (a ++ b)) : IsL a := fun e he => h e (List.mem_append.2 (.inl he))
theorem IsL.right {a b : List Int} (h : IsL (a ++ b)) : IsL b := fun e he => h e (List.mem_append.2 (.inr he))
theorem IsL.nil : IsL [] := fun _ h => by cases h
theorem IsL.one {d : Int} (h : 0 ≤ d ∧ d < 1000000000) : IsL [d] := IsL.mk h IsL.nil
theorem IsL.take {l : List Int} (h : IsL l) (k : Nat) : IsL (l.take k) := fun e he => h e (List.mem_of_mem_take he)
theorem IsL.drop {l : List Int} (h : IsL l) (k : Nat) : IsL (l.drop k) := fun e he => h e (List.mem_of_mem_drop he)
theorem IsL.get {l : List Int} (h : IsL l) (k : Nat) : 0 ≤ l.getD k 0 ∧ l.getD k 0 < 1000000000 := by
  rw [List.getD_eq_getElem?_getD]
  cases hk : l[k]? with
  | none => simp
  | some d => exact h d (List.mem_of_getElem? hk)

theorem val_nonneg {l : List Int} (h : IsL l) : 0 ≤ val l := by
  induction l with
  | nil => simp [val]
  | cons d l ih =>
    obtain ⟨h1, h2⟩ := h.cons
    have := Int.mul_nonneg (Int.le_of_lt BB_pos) (ih h2)
    simp only [val]
    omega

theorem val_lt {l : List Int} (h : IsL l) : val l < bp l.length := by
  induction l with
  | nil => simp [val, bp]
  | cons d l ih =>
    obtain ⟨h1, h2⟩ := h.cons
    have := ih h2
    have h3 : BB * (val l + 1) ≤ BB * bp l.length := Int.mul_le_mul_of_nonneg_left (by omega) (Int.le_of_lt BB_pos)
    simp only [val, List.length_cons, bp]
    rw [Int.mul_add] at h3
    have := BB_eq
    omega

/-- A natural number: no zero limb at the end. -/
def Can (l : List Int) : Prop := IsL l ∧ (l = [] ∨ bp (l.length - 1) ≤ val l)

theorem val_ge_last {a : List Int} {d : Int} (h : IsL a) (hd : 1 ≤ d) : bp a.length ≤ val (a ++ [d]) := by
  rw [val_snoc]
  have h1 := val_nonneg h
  have h2 : bp a.length * 1 ≤ bp a.length * d := Int.mul_le_mul_of_nonneg_left hd (Int.le_of_lt (bp_pos _))
  omega

theorem can_iff_last {a : List Int} {d : Int} (h : IsL (a ++ [d])) : Can (a ++ [d]) ↔ d ≠ 0 := by
  have hd := h d (by simp)
  constructor
  · rintro ⟨_, h1 | h1⟩ rfl
    · simp at h1
    · rw [val_snoc] at h1
      have := val_lt h.left
      simp at h1
      omega
  · intro hne
    exact ⟨h, .inr (by simpa using val_ge_last h.left (by omega))⟩

theorem Can.nil : Can [] := ⟨IsL.nil, .inl rfl⟩

theorem can_ext : ∀ {a b : List Int}, IsL a → IsL b → a.length = b.length → val a = val b → a = b
  | [], [], _, _, _, _ => rfl
  | [], _ :: _, _, _, h, _ => by simp at h
  | _ :: _, [], _, _, h, _ => by simp at h
  | d :: a, e :: b, ha, hb, hl, hv => by
    obtain ⟨h1, h2⟩ := ha.cons
    obtain ⟨h3, h4⟩ := hb.cons
    simp only [val, BB] at hv
    have e1 : d = e := by omega
    have e2 : val a = val b := by omega
    rw [e1, can_ext h2 h4 (by simpa using hl) e2]

theorem can_len {a b : List Int} (ha : Can a) (hb : Can b) (h : val a ≤ val b) : a.length ≤ b.length := by
  rcases ha.2 with rfl | h1
  · simp
  · apply Nat.le_of_not_lt
    intro hlt
    have h2 := val_lt hb.1
    have h3 := bp_mono (show b.length ≤ a.length - 1 by omega)
    omega

theorem can_inj {a b : List Int} (ha : Can a) (hb : Can b) (h : val a = val b) : a = b :=
  can_ext ha.1 hb.1 (Nat.le_antisymm (can_len ha hb (by omega)) (can_len hb ha (by omega))) h

/-- The limbs of a number. -/
def limbsF : Nat → Nat → List Int
  | 0, _ => []
  | f + 1, n => if n = 0 then [] else ((n % 1000000000 : Nat) : Int) :: limbsF f (n / 1000000000)
def limbs (n : Nat) : List Int := limbsF n n

theorem limbsF_val : ∀ (f n : Nat), n ≤ f → val (limbsF f n) = n
  | 0, n, h => by obtain rfl : n = 0 := by omega
                  rfl
  | f + 1, n, h => by
    unfold limbsF
    split
    · simp [val]; omega
    · rw [val, limbsF_val f (n / 1000000000) (by omega), BB_eq]; omega

theorem limbsF_isL : ∀ (f n : Nat), IsL (limbsF f n)
  | 0, n => IsL.nil
  | f + 1, n => by
    unfold limbsF
    split
    · exact IsL.nil
    · exact IsL.mk (by omega) (limbsF_isL f _)

theorem limbsF_can : ∀ (f n : Nat), n ≤ f → Can (limbsF f n)
  | 0, n, h => Can.nil
  | f + 1, n, h => by
    refine ⟨limbsF_isL _ _, ?_⟩
    rcases (limbsF_can f (n / 1000000000) (by omega)).2 with h1 | h1
    · unfold limbsF
      split
      · exact .inl rfl
      · rw [h1]; right; simp [bp, val]; 
        have := limbsF_val f (n / 1000000000) (by omega)
        rw [h1] at this
        simp [val] at this
        omega
    · unfold limbsF
      split
      · exact .inl rfl
      · right
        simp only [List.length_cons, Nat.add_sub_cancel, val]
        have h3 : BB * bp ((limbsF f (n / 1000000000)).length - 1) ≤ BB * val (limbsF f (n / 1000000000)) := Int.mul_le_mul_of_nonneg_left h1 (Int.le_of_lt BB_pos)
        cases hl : (limbsF f (n / 1000000000)).length with
        | zero =>
          have : limbsF f (n / 1000000000) = [] := List.eq_nil_of_length_eq_zero hl
          have h4 := limbsF_val f (n / 1000000000) (by omega)
          rw [this] at h4 ⊢
          simp [val] at h4
          simp [bp, val]
          omega
        | succ m =>
          rw [hl] at h3
          simp only [Nat.add_sub_cancel] at h3
          rw [bp]
          omega

theorem limbs_val (n : Nat) : val (limbs n) = n := limbsF_val n n (Nat.le_refl _)
theorem limbs_can (n : Nat) : Can (limbs n) := limbsF_can n n (Nat.le_refl _)
theorem limbs_isL (n : Nat) : IsL (limbs n) := (limbs_can n).1
theorem can_limbs {l : List Int} {n : Nat} (h : Can l) (hv : val l = n) : l = limbs n := can_inj h (limbs_can n) (by rw [hv, limbs_val])
theorem can_of {l : List Int} (h : Can l) : l = limbs (val l).toNat := can_limbs h (by have := val_nonneg h.1; omega)
theorem limbs_zero : limbs 0 = [] := rfl
theorem limbs_inj {a b : Nat} (h : limbs a = limbs b) : a = b := by
  have := limbs_val a
  rw [h, limbs_val] at this
  omega
theorem limbs_nil {n : Nat} : limbs n = [] ↔ n = 0 := ⟨fun h => limbs_inj (h.trans limbs_zero.symm), fun h => by rw [h]; rfl⟩
theorem limbs_one {n : Nat} (h0 : n ≠ 0) (h : n < 1000000000) : limbs n = [(n : Int)] := by
  refine (can_limbs (n := n) ⟨IsL.one (by omega), .inr ?_⟩ (by simp [val])).symm
  simp [val, bp]
  omega
theorem limbs_lt (n : Nat) : (n : Int) < bp (limbs n).length := by
  have := val_lt (limbs_isL n)
  rwa [limbs_val] at this
theorem limbs_ge {n : Nat} (h : n ≠ 0) : bp ((limbs n).length - 1) ≤ n := by
  rcases (limbs_can n).2 with h1 | h1
  · exact absurd (limbs_nil.1 h1) h
  · rwa [limbs_val] at h1
theorem limbs_len_le {n k : Nat} : (limbs n).length ≤ k ↔ (n : Int) < bp k := by
  constructor
  · intro h
    have := limbs_lt n
    have := bp_mono h
    omega
  · intro h
    apply Nat.le_of_not_lt
    intro hlt
    by_cases h0 : n = 0
    · subst h0
      rw [limbs_zero] at hlt
      simp at hlt
    · have := limbs_ge h0
      have := bp_mono (show k ≤ (limbs n).length - 1 by omega)
      omega
theorem limbs_len_mono {a b : Nat} (h : a ≤ b) : (limbs a).length ≤ (limbs b).length :=
  limbs_len_le.2 (by have := limbs_lt b; omega)
theorem limbs_last {n : Nat} {l : List Int} {d : Int} (h : limbs n = l ++ [d]) : d ≠ 0 := by
  have h1 := limbs_can n
  rw [h] at h1
  exact (can_iff_last h1.1).1 h1

/-- Without the zero limbs at the end. -/
theorem val_replicate_zero (k : Nat) : val (List.replicate k 0) = 0 := by
  induction k with
  | zero => rfl
  | succ k ih => simp [List.replicate_succ, val, ih]

theorem trim_limbs {l : List Int} {n m : Nat} (h : IsL l) (hv : val l = n) (hm : m ≤ l.length) (hz : ∀ i, m ≤ i → i < l.length → l.getD i 0 = 0) (hlast : m = 0 ∨ l.getD (m - 1) 0 ≠ 0) : l.take m = limbs n := by
  have h1 : l.drop m = List.replicate (l.length - m) 0 := by
    apply List.ext_getElem?
    intro i
    rw [List.getElem?_drop, List.getElem?_replicate]
    by_cases hi : m + i < l.length
    · have := hz (m + i) (by omega) hi
      rw [List.getD_eq_getElem?_getD, List.getElem?_eq_getElem hi] at this
      rw [List.getElem?_eq_getElem hi, if_pos (by omega)]
      simpa using this
    · rw [List.getElem?_eq_none (by omega), if_neg (by omega)]
  have h2 : val (l.take m) = n := by
    have := val_append (l.take m) (l.drop m)
    rw [List.take_append_drop, h1, val_replicate_zero] at this
    omega
  refine can_limbs ⟨h.take m, ?_⟩ h2
  rcases hlast with rfl | hl
  · left; simp
  · by_cases h0 : m = 0
    · left; rw [h0]; simp
    · right
      have hlt : m - 1 < l.length := by omega
      have e : l.take m = l.take (m - 1) ++ [l.getD (m - 1) 0] := by
        rw [List.getD_eq_getElem?_getD, List.getElem?_eq_getElem hlt, Option.getD_some]
        have := List.take_succ_eq_append_getElem hlt
        rwa [show m - 1 + 1 = m by omega] at this
      have hd := h.get (m - 1)
      have h3 := val_ge_last (a := l.take (m - 1)) (d := l.getD (m - 1) 0) (h.take _) (by omega)
      rw [← e] at h3
      rw [List.length_take] at h3 ⊢
      rw [show min (m - 1) l.length = m - 1 by omega] at h3
      rw [show min m l.length - 1 = m - 1 by omega]
      exact h3
      
end Go.Proofs.YtnbefpfijaimjaaGreatDoor
/- Lists of limbs: prefixes, single limbs, order, division with small and great numbers. Plain facts; it speaks of no program. -/
namespace Go.Proofs.YtnbefpfijaimjaaGreatDoor

theorem val_take_succ (l : List Int) (i : Nat) : val (l.take (i + 1)) = val (l.take i) + bp i * l.getD i 0 := by
  by_cases h : i < l.length
  · rw [List.take_succ_eq_append_getElem h, val_snoc, List.length_take, Nat.min_eq_left (Nat.le_of_lt h), List.getD_eq_getElem?_getD, List.getElem?_eq_getElem h, Option.getD_some]
  · rw [List.take_of_length_le (by omega), List.take_of_length_le (by omega), List.getD_eq_getElem?_getD, List.getElem?_eq_none (by omega)]
    simp
theorem val_take_all (l : List Int) {i : Nat} (h : l.length ≤ i) : val (l.take i) = val l := by rw [List.take_of_length_le h]
theorem val_take_zero (l : List Int) : val (l.take 0) = 0 := rfl
theorem val_set : ∀ (l : List Int) (i : Nat) (d : Int), i < l.length → val (l.set i d) = val l + bp i * (d - l.getD i 0)
  | [], i, d, h => by simp at h
  | x :: l, 0, d, _ => by simp [val, bp]; omega
  | x :: l, i + 1, d, h => by
    have ih := val_set l i d (by simpa using h)
    simp only [List.set_cons_succ, val, ih, bp, List.getD_cons_succ, Int.mul_add, Int.mul_assoc]
    omega
theorem getD_set_ne {l : List Int} {i j : Nat} {d : Int} (h : i ≠ j) : (l.set i d).getD j 0 = l.getD j 0 := by
  rw [List.getD_eq_getElem?_getD, List.getD_eq_getElem?_getD, List.getElem?_set_ne h]
theorem getD_set_eq {l : List Int} {i : Nat} {d : Int} (h : i < l.length) : (l.set i d).getD i 0 = d := by
  rw [List.getD_eq_getElem?_getD, List.getElem?_set_self h, Option.getD_some]
theorem IsL.set {l : List Int} (h : IsL l) {i : Nat} {d : Int} (hd : 0 ≤ d ∧ d < 1000000000) : IsL (l.set i d) := by
  intro e he
  rcases List.mem_or_eq_of_mem_set he with h1 | rfl
  · exact h e h1
  · exact hd
theorem isL_zeros (n : Nat) : IsL (List.replicate n 0) := fun e he => by
  rw [(List.mem_replicate.1 he).2]
  omega
theorem val_drop (l : List Int) (p : Nat) (hp : p ≤ l.length) : val l = val (l.take p) + bp p * val (l.drop p) := by
  have := val_append (l.take p) (l.drop p)
  rwa [List.take_append_drop, List.length_take, Nat.min_eq_left hp] at this
/-- Above a small value all limbs are 0. -/
theorem high_zero {l : List Int} (h : IsL l) {p : Nat} (hv : val l < bp p) : ∀ j, p ≤ j → l.getD j 0 = 0 := by
  intro j hj
  by_cases hl : j < l.length
  · have hd := h.get j
    apply Classical.byContradiction
    intro hn
    have h1 : 1 ≤ l.getD j 0 := by omega
    have h2 := val_drop l j (by omega)
    have h3 : bp j ≤ val l := by
      have h4 := val_drop l (j + 1) (by omega)
      have h5 := val_take_succ l j
      have h6 : 0 ≤ bp (j + 1) * val (l.drop (j + 1)) := Int.mul_nonneg (Int.le_of_lt (bp_pos _)) (val_nonneg (h.drop _))
      have h7 : bp j * 1 ≤ bp j * l.getD j 0 := Int.mul_le_mul_of_nonneg_left h1 (Int.le_of_lt (bp_pos _))
      have h8 := val_nonneg (h.take j)
      omega
    have := bp_mono hj
    omega
  · rw [List.getD_eq_getElem?_getD, List.getElem?_eq_none (by omega)]
    rfl
theorem limbs_take_lt (n i : Nat) : val ((limbs n).take i) < bp i := by
  have h1 := val_lt ((limbs_isL n).take i)
  exact Int.lt_of_lt_of_le h1 (bp_mono (by rw [List.length_take]; omega))
theorem limbs_take_nonneg (n i : Nat) : 0 ≤ val ((limbs n).take i) := val_nonneg ((limbs_isL n).take i)
theorem limbs_get (n i : Nat) : 0 ≤ (limbs n).getD i 0 ∧ (limbs n).getD i 0 < 1000000000 := (limbs_isL n).get i
theorem bp_succ (k : Nat) : bp (k + 1) = 1000000000 * bp k := rfl
theorem bp_len_le {n : Nat} (h : n ≠ 0) : bp ((limbs n).length - 1) ≤ n := limbs_ge h
theorem limbs_len_pos {n : Nat} : 0 < (limbs n).length ↔ n ≠ 0 := by
  rw [List.length_pos_iff, Ne, limbs_nil]
theorem limbs_len_mul (a b : Nat) : (limbs (a * b)).length ≤ (limbs a).length + (limbs b).length := by
  rw [limbs_len_le, bp_add]
  have h1 := limbs_lt a
  have h2 := limbs_lt b
  have h3 : (a : Int) * b ≤ a * bp (limbs b).length := Int.mul_le_mul_of_nonneg_left (by omega) (by omega)
  have h4 := bp_pos (limbs b).length
  have h5 : (a : Int) * bp (limbs b).length < bp (limbs a).length * bp (limbs b).length := Int.mul_lt_mul_of_pos_right h1 h4
  rw [Int.natCast_mul]
  omega
theorem limbs_len_add (a b : Nat) : (limbs (a + b)).length ≤ max (limbs a).length (limbs b).length + 1 := by
  rw [limbs_len_le, bp_succ]
  have h1 := limbs_lt a
  have h2 := limbs_lt b
  have h3 := bp_mono (show (limbs a).length ≤ max (limbs a).length (limbs b).length by omega)
  have h4 := bp_mono (show (limbs b).length ≤ max (limbs a).length (limbs b).length by omega)
  omega
theorem limbs_cons {a r : Nat} (h : a < 1000000000) (hp : r ≠ 0 ∨ a ≠ 0) : (a : Int) :: limbs r = limbs (a + 1000000000 * r) := by
  refine can_limbs ⟨IsL.mk (by omega) (limbs_isL r), .inr ?_⟩ ?_
  · simp only [List.length_cons, Nat.add_sub_cancel, val, limbs_val, BB_eq]
    by_cases h0 : r = 0
    · subst h0
      rw [limbs_zero]
      simp [bp]
      omega
    · have h1 := limbs_ge h0
      cases hl : (limbs r).length with
      | zero => exact absurd (limbs_nil.1 (List.eq_nil_of_length_eq_zero hl)) h0
      | succ k =>
        rw [hl] at h1
        rw [bp_succ]
        simp only [Nat.add_sub_cancel] at h1
        omega
  · simp only [val, limbs_val, BB_eq]
    omega

/-- Three-way comparison. -/
def cmpI (a b : Int) : Int := if a < b then -1 else if b < a then 1 else 0
theorem cmpI_lt {a b : Int} (h : a < b) : cmpI a b = -1 := if_pos h
theorem cmpI_gt {a b : Int} (h : b < a) : cmpI a b = 1 := by unfold cmpI; rw [if_neg (by omega), if_pos h]
theorem cmpI_eq {a b : Int} (h : a = b) : cmpI a b = 0 := by unfold cmpI; rw [if_neg (by omega), if_neg (by omega)]
theorem cmpI_range (a b : Int) : -1 ≤ cmpI a b ∧ cmpI a b ≤ 1 := by unfold cmpI; split <;> (try split) <;> omega
theorem cmpI_neg {a b : Int} : cmpI a b < 0 ↔ a < b := by unfold cmpI; split <;> (try split) <;> omega
theorem cmpI_pos {a b : Int} : 0 < cmpI a b ↔ b < a := by unfold cmpI; split <;> (try split) <;> omega
theorem cmpI_zero {a b : Int} : cmpI a b = 0 ↔ a = b := by unfold cmpI; split <;> (try split) <;> omega

/-- Lists of limbs of one length: the highest limb that differs decides. -/
theorem val_cmp {l m : List Int} (hl : IsL l) (hm : IsL m) {k : Nat} (hlen : l.length = m.length) (hk : k < l.length) (he : ∀ j, k < j → j < l.length → l.getD j 0 = m.getD j 0) (hlt : l.getD k 0 < m.getD k 0) : val l < val m := by
  have hd : l.drop (k + 1) = m.drop (k + 1) := by
    apply List.ext_getElem?
    intro i
    rw [List.getElem?_drop, List.getElem?_drop]
    by_cases hi : k + 1 + i < l.length
    · have := he (k + 1 + i) (by omega) hi
      rw [List.getD_eq_getElem?_getD, List.getD_eq_getElem?_getD, List.getElem?_eq_getElem hi, List.getElem?_eq_getElem (by omega)] at this
      rw [List.getElem?_eq_getElem hi, List.getElem?_eq_getElem (by omega)]
      simpa using this
    · rw [List.getElem?_eq_none (by omega), List.getElem?_eq_none (by omega)]
  have h1 := val_drop l (k + 1) (by omega)
  have h2 := val_drop m (k + 1) (by omega)
  have h3 := val_take_succ l k
  have h4 := val_take_succ m k
  rw [hd] at h1
  have h5 : bp k * (l.getD k 0 + 1) ≤ bp k * m.getD k 0 := Int.mul_le_mul_of_nonneg_left (by omega) (Int.le_of_lt (bp_pos _))
  rw [Int.mul_add, Int.mul_one] at h5
  have h6 : val (l.take k) < bp k := Int.lt_of_lt_of_le (val_lt (hl.take k)) (bp_mono (by rw [List.length_take]; omega))
  have h7 := val_nonneg (hm.take k)
  omega
theorem val_cmp_len {a b : Nat} (h : (limbs a).length < (limbs b).length) : (a : Int) < b := by
  have h1 := limbs_lt a
  have hb : b ≠ 0 := limbs_len_pos.1 (by omega)
  have h2 := limbs_ge hb
  have h3 := bp_mono (show (limbs a).length ≤ (limbs b).length - 1 by omega)
  omega
end Go.Proofs.YtnbefpfijaimjaaGreatDoor
/- The schoolbook algorithms on limbs, step by step. Plain facts; it speaks of no program. -/
namespace Go.Proofs.YtnbefpfijaimjaaGreatDoor

theorem tm_eq {n : Int} (h : 0 ≤ n) : n.tmod 1000000000 = n % 1000000000 := Int.tmod_eq_emod_of_nonneg h
theorem td_eq {n : Int} (h : 0 ≤ n) : n.tdiv 1000000000 = n / 1000000000 := Int.tdiv_eq_ediv_of_nonneg h

/-! ### Sum -/
structure AddInv (a b i : Nat) (xs : List Int) (c : Int) : Prop where
  len : xs.length = i
  ok : IsL xs
  car : c = 0 ∨ c = 1
  sum : val xs + bp i * c = val ((limbs a).take i) + val ((limbs b).take i)
  top : i ≤ max (limbs a).length (limbs b).length ∨ (c = 0 ∧ i = max (limbs a).length (limbs b).length + 1 ∧ bp (i - 1) ≤ val xs)
theorem AddInv.start (a b : Nat) : AddInv a b 0 [] 0 := ⟨rfl, IsL.nil, .inl rfl, by simp [val], .inl (Nat.zero_le _)⟩
theorem AddInv.step {a b i : Nat} {xs : List Int} {c : Int} (h : AddInv a b i xs c) (hg : i < (limbs a).length ∨ i < (limbs b).length ∨ 0 < c) {n : Int} (hn : n = (limbs a).getD i 0 + (limbs b).getD i 0 + c) :
    AddInv a b (i + 1) (xs ++ [n.tmod 1000000000]) (n.tdiv 1000000000) := by
  have ha := limbs_get a i
  have hb := limbs_get b i
  have hc := h.car
  have hn0 : 0 ≤ n := by omega
  rw [tm_eq hn0, td_eq hn0]
  have e1 := val_take_succ (limbs a) i
  have e2 := val_take_succ (limbs b) i
  have hs := h.sum
  have key : val (xs ++ [n % 1000000000]) + bp (i + 1) * (n / 1000000000) = val ((limbs a).take (i + 1)) + val ((limbs b).take (i + 1)) := by
    rw [val_snoc, h.len, e1, e2, bp_succ]
    have h1 : bp i * n = bp i * (n % 1000000000) + 1000000000 * bp i * (n / 1000000000) := by
      have := Int.mul_ediv_add_emod n 1000000000
      calc bp i * n = bp i * (1000000000 * (n / 1000000000) + n % 1000000000) := by rw [this]
        _ = _ := by rw [Int.mul_add, ← Int.mul_assoc, Int.mul_comm (bp i) 1000000000]; omega
    have h2 : bp i * n = bp i * (limbs a).getD i 0 + bp i * (limbs b).getD i 0 + bp i * c := by rw [hn, Int.mul_add, Int.mul_add]
    omega
  refine ⟨by simp [h.len], h.ok.app (IsL.one (by omega)), by omega, key, ?_⟩
  rcases h.top with ht | ⟨h0, h1, _⟩
  · by_cases hi : i < max (limbs a).length (limbs b).length
    · exact .inl (by omega)
    · right
      have hi' : i = max (limbs a).length (limbs b).length := by omega
      have ga : (limbs a).getD i 0 = 0 := by rw [List.getD_eq_getElem?_getD, List.getElem?_eq_none (by omega)]; rfl
      have gb : (limbs b).getD i 0 = 0 := by rw [List.getD_eq_getElem?_getD, List.getElem?_eq_none (by omega)]; rfl
      have hc1 : c = 1 := by omega
      have hn1 : n = 1 := by omega
      refine ⟨by omega, by omega, ?_⟩
      rw [val_snoc, h.len]
      have hv := val_nonneg h.ok
      subst hn1
      simp
      omega
  · omega
theorem AddInv.done {a b i : Nat} {xs : List Int} {c : Int} (h : AddInv a b i xs c) (h1 : ¬ i < (limbs a).length) (h2 : ¬ i < (limbs b).length) (h3 : ¬ 0 < c) : xs = limbs (a + b) := by
  have hc : c = 0 := by have := h.car; omega
  subst hc
  have hs := h.sum
  rw [val_take_all _ (by omega), val_take_all _ (by omega), limbs_val, limbs_val] at hs
  refine can_limbs ⟨h.ok, ?_⟩ (by omega)
  rw [h.len]
  rcases h.top with ht | ⟨_, _, ht⟩
  · by_cases h0 : i = 0
    · left
      exact List.eq_nil_of_length_eq_zero (by rw [h.len, h0])
    · right
      have hi : i = max (limbs a).length (limbs b).length := by omega
      by_cases hab : (limbs a).length ≤ (limbs b).length
      · have := limbs_ge (n := b) (limbs_len_pos.1 (by omega))
        rw [show (limbs b).length = i by omega] at this
        omega
      · have := limbs_ge (n := a) (limbs_len_pos.1 (by omega))
        rw [show (limbs a).length = i by omega] at this
        omega
  · exact .inr ht

/-! ### Difference -/
structure SubInv (a b i : Nat) (xs : List Int) (c : Int) : Prop where
  len : xs.length = i
  ok : IsL xs
  car : c = 0 ∨ c = 1
  sum : val xs + val ((limbs b).take i) = val ((limbs a).take i) + bp i * c
theorem SubInv.start (a b : Nat) : SubInv a b 0 [] 0 := ⟨rfl, IsL.nil, .inl rfl, by simp [val]⟩
theorem SubInv.step {a b i : Nat} {xs : List Int} {c n d : Int} (h : SubInv a b i xs c) (hd : 0 ≤ d ∧ d < 1000000000) {c' : Int} (hc' : c' = 0 ∨ c' = 1) (hn : n = (limbs a).getD i 0 - (limbs b).getD i 0 - c) (hdn : d = n + 1000000000 * c') :
    SubInv a b (i + 1) (xs ++ [d]) c' := by
  have e1 := val_take_succ (limbs a) i
  have e2 := val_take_succ (limbs b) i
  have hs := h.sum
  refine ⟨by simp [h.len], h.ok.app (IsL.one hd), hc', ?_⟩
  rw [val_snoc, h.len, e1, e2, bp_succ]
  have h1 : bp i * d = bp i * (limbs a).getD i 0 - bp i * (limbs b).getD i 0 - bp i * c + 1000000000 * bp i * c' := by
    rw [hdn, hn, Int.mul_add, Int.mul_sub, Int.mul_sub, ← Int.mul_assoc, Int.mul_comm (bp i) 1000000000]
  omega
theorem SubInv.done {a b : Nat} {xs : List Int} {c : Int} (h : SubInv a b (limbs a).length xs c) (hab : b ≤ a) : IsL xs ∧ val xs = (a - b : Nat) := by
  have hs := h.sum
  rw [val_take_all _ (Nat.le_refl _), val_take_all _ (limbs_len_mono hab), limbs_val, limbs_val] at hs
  refine ⟨h.ok, ?_⟩
  have h1 := val_lt h.ok
  rw [h.len] at h1
  rcases h.car with rfl | rfl
  · omega
  · omega

/-! ### Product -/
/-- The row before round i. -/
structure MulInv (a b i : Nat) (xs : List Int) : Prop where
  len : xs.length = (limbs a).length + (limbs b).length
  ok : IsL xs
  sum : val xs = val ((limbs a).take i) * b
theorem MulInv.start (a b : Nat) : MulInv a b 0 (List.replicate ((limbs a).length + (limbs b).length) 0) := ⟨by simp, isL_zeros _, by simp [val, val_replicate_zero]⟩
/-- Within round i, before limb k. -/
structure MulRow (a b i k : Nat) (xs : List Int) (c : Int) : Prop where
  len : xs.length = (limbs a).length + (limbs b).length
  ok : IsL xs
  car : 0 ≤ c ∧ c < 1000000000
  lt : i < (limbs a).length
  sum : val xs + bp (i + k) * c = val ((limbs a).take i) * b + bp i * ((limbs a).getD i 0 * val ((limbs b).take k))
theorem MulInv.open {a b i : Nat} {xs : List Int} (h : MulInv a b i xs) (hi : i < (limbs a).length) : MulRow a b i 0 xs 0 := ⟨h.len, h.ok, by omega, hi, by simp [val, h.sum]⟩
theorem mulTop (a b i : Nat) : val ((limbs a).take i) * b + bp i * ((limbs a).getD i 0 * b) = val ((limbs a).take (i + 1)) * b := by
  rw [val_take_succ, Int.add_mul, Int.mul_assoc]
theorem mul_lt_top (a b i : Nat) : val ((limbs a).take (i + 1)) * b < bp (i + 1 + (limbs b).length) := by
  have h1 := limbs_take_lt a (i + 1)
  have h2 := limbs_lt b
  have h3 := limbs_take_nonneg a (i + 1)
  rw [bp_add]
  have h4 : val ((limbs a).take (i + 1)) * b ≤ val ((limbs a).take (i + 1)) * bp (limbs b).length := Int.mul_le_mul_of_nonneg_left (by omega) h3
  have h5 : val ((limbs a).take (i + 1)) * bp (limbs b).length < bp (i + 1) * bp (limbs b).length := Int.mul_lt_mul_of_pos_right h1 (bp_pos _)
  omega
theorem MulRow.le {a b i k : Nat} {xs : List Int} {c : Int} (h : MulRow a b i k xs c) : val xs + bp (i + k) * c ≤ val ((limbs a).take (i + 1)) * b := by
  have h1 : (limbs a).getD i 0 * val ((limbs b).take k) ≤ (limbs a).getD i 0 * b := by
    refine Int.mul_le_mul_of_nonneg_left ?_ (limbs_get a i).1
    by_cases hk : k ≤ (limbs b).length
    · have h2 := val_drop (limbs b) k hk
      rw [limbs_val] at h2
      have : 0 ≤ bp k * val ((limbs b).drop k) := Int.mul_nonneg (Int.le_of_lt (bp_pos _)) (val_nonneg ((limbs_isL b).drop k))
      omega
    · rw [val_take_all _ (by omega), limbs_val]
      exact Int.le_refl _
  have h3 : bp i * ((limbs a).getD i 0 * val ((limbs b).take k)) ≤ bp i * ((limbs a).getD i 0 * b) := Int.mul_le_mul_of_nonneg_left h1 (Int.le_of_lt (bp_pos _))
  have h4 := mulTop a b i
  have := h.sum
  omega
/-- The place is there as long as limbs or a carry are left. -/
theorem MulRow.room {a b i k : Nat} {xs : List Int} {c : Int} (h : MulRow a b i k xs c) (hg : k < (limbs b).length ∨ 0 < c) : i + k < xs.length := by
  rw [h.len]
  have hi := h.lt
  rcases hg with hg | hg
  · omega
  · by_cases hb : b = 0
    · subst hb
      have h1 := h.le
      simp at h1
      have h2 := val_nonneg h.ok
      have h3 : bp (i + k) * 1 ≤ bp (i + k) * c := Int.mul_le_mul_of_nonneg_left (by omega) (Int.le_of_lt (bp_pos _))
      have := bp_pos (i + k)
      omega
    · have h1 := h.le
      have h2 := mul_lt_top a b i
      have h4 := val_nonneg h.ok
      have h3 : bp (i + k) * 1 ≤ bp (i + k) * c := Int.mul_le_mul_of_nonneg_left (by omega) (Int.le_of_lt (bp_pos _))
      apply Classical.byContradiction
      intro hn
      have := bp_mono (show i + 1 + (limbs b).length ≤ i + k by omega)
      omega
theorem MulRow.bound {a b i k : Nat} {xs : List Int} {c : Int} (h : MulRow a b i k xs c) (p : Nat) : 0 ≤ (limbs a).getD i 0 * (limbs b).getD k 0 ∧ (limbs a).getD i 0 * (limbs b).getD k 0 ≤ 999999998000000001 ∧ 0 ≤ xs.getD p 0 ∧ xs.getD p 0 < 1000000000 := by
  have h1 := limbs_get a i
  have h2 := limbs_get b k
  have h3 := h.ok.get p
  refine ⟨Int.mul_nonneg h1.1 h2.1, ?_, h3.1, h3.2⟩
  have h4 : (limbs a).getD i 0 * (limbs b).getD k 0 ≤ (limbs a).getD i 0 * 999999999 := Int.mul_le_mul_of_nonneg_left (by omega) h1.1
  omega
theorem MulRow.step {a b i k : Nat} {xs : List Int} {c n : Int} (h : MulRow a b i k xs c) (hp : i + k < xs.length) (hn : n = xs.getD (i + k) 0 + (limbs a).getD i 0 * (limbs b).getD k 0 + c) :
    MulRow a b i (k + 1) (xs.set (i + k) (n.tmod 1000000000)) (n.tdiv 1000000000) := by
  obtain ⟨b1, b2, b3, b4⟩ := h.bound (i + k)
  have hc := h.car
  have hn0 : 0 ≤ n := by omega
  rw [tm_eq hn0, td_eq hn0]
  refine ⟨by simp [h.len], h.ok.set (by omega), by omega, h.lt, ?_⟩
  have hs := h.sum
  rw [val_set _ _ _ hp, val_take_succ, ← Nat.add_assoc, bp_succ]
  have h1 : bp (i + k) * n = bp (i + k) * (n % 1000000000) + 1000000000 * bp (i + k) * (n / 1000000000) := by
    have := Int.mul_ediv_add_emod n 1000000000
    calc bp (i + k) * n = bp (i + k) * (1000000000 * (n / 1000000000) + n % 1000000000) := by rw [this]
      _ = _ := by rw [Int.mul_add, ← Int.mul_assoc, Int.mul_comm (bp (i + k)) 1000000000]; omega
  have h2 : bp (i + k) * n = bp (i + k) * xs.getD (i + k) 0 + bp (i + k) * ((limbs a).getD i 0 * (limbs b).getD k 0) + bp (i + k) * c := by rw [hn, Int.mul_add, Int.mul_add]
  have h3 : bp i * ((limbs a).getD i 0 * (val ((limbs b).take k) + bp k * (limbs b).getD k 0)) = bp i * ((limbs a).getD i 0 * val ((limbs b).take k)) + bp (i + k) * ((limbs a).getD i 0 * (limbs b).getD k 0) := by
    rw [Int.mul_add, Int.mul_add, bp_add]
    congr 1
    rw [Int.mul_assoc (bp i) (bp k), Int.mul_left_comm (bp k)]
  rw [h3, Int.mul_sub]
  omega
theorem MulRow.close {a b i k : Nat} {xs : List Int} {c : Int} (h : MulRow a b i k xs c) (hk : ¬ k < (limbs b).length) (hc : ¬ 0 < c) : MulInv a b (i + 1) xs := by
  have hc0 : c = 0 := by have := h.car; omega
  subst hc0
  have hs := h.sum
  rw [val_take_all (limbs b) (by omega), limbs_val, mulTop] at hs
  exact ⟨h.len, h.ok, by omega⟩
/-- The reference's way: the last carry is put where nothing was. -/
theorem MulRow.last {a b i : Nat} {xs : List Int} {c : Int} (h : MulRow a b i (limbs b).length xs c) (hx : val xs < bp (i + (limbs b).length)) : MulInv a b (i + 1) (xs.set (i + (limbs b).length) c) := by
  have hi := h.lt
  have hz := high_zero h.ok hx (i + (limbs b).length) (Nat.le_refl _)
  refine ⟨by simp [h.len], h.ok.set h.car, ?_⟩
  rw [val_set _ _ _ (by rw [h.len]; omega), hz]
  have hs := h.sum
  rw [val_take_all (limbs b) (Nat.le_refl _), limbs_val, mulTop] at hs
  simp
  omega
theorem MulInv.done {a b : Nat} {xs : List Int} (h : MulInv a b (limbs a).length xs) : IsL xs ∧ val xs = (a * b : Nat) := by
  refine ⟨h.ok, ?_⟩
  rw [h.sum, val_take_all _ (Nat.le_refl _), limbs_val, Int.natCast_mul]

/-! ### Quotient, from the highest limb down -/
/-- i limbs are left. -/
structure DivInv (a b i : Nat) (xs : List Int) (r : Nat) : Prop where
  len : xs.length = (limbs a).length
  ok : IsL xs
  le : i ≤ (limbs a).length
  rest : r < b
  low : ∀ j, j < i → xs.getD j 0 = 0
  sum : val xs * b + bp i * r + val ((limbs a).take i) = a
theorem getD_replicate_zero (n j : Nat) : (List.replicate n (0 : Int)).getD j 0 = 0 := by
  rw [List.getD_eq_getElem?_getD, List.getElem?_replicate]
  split <;> rfl
theorem DivInv.start (a b : Nat) (hb : b ≠ 0) : DivInv a b (limbs a).length (List.replicate (limbs a).length 0) 0 :=
  ⟨by simp, isL_zeros _, Nat.le_refl _, by omega, fun j _ => getD_replicate_zero _ j, by rw [val_replicate_zero, val_take_all _ (Nat.le_refl _), limbs_val]; simp⟩
/-- One limb more: m is the rest with the limb behind it. -/
theorem DivInv.step {a b i : Nat} {xs : List Int} {r m : Nat} (h : DivInv a b (i + 1) xs r) (hm : (m : Int) = r * 1000000000 + (limbs a).getD i 0) : DivInv a b i (xs.set i ((m / b : Nat) : Int)) (m % b) := by
  have hb : 0 < b := Nat.lt_of_le_of_lt (Nat.zero_le _) h.rest
  have hle := h.le
  have hlen := h.len
  have hg := limbs_get a i
  have hr := h.rest
  have hmb : m < b * 1000000000 := by
    have : (r + 1) * 1000000000 ≤ b * 1000000000 := Nat.mul_le_mul_right _ hr
    omega
  have hq : m / b < 1000000000 := by
    rw [Nat.div_lt_iff_lt_mul hb, Nat.mul_comm]
    exact hmb
  refine ⟨by simp [h.len], h.ok.set (by generalize m / b = q at *; omega), by omega, Nat.mod_lt _ hb, fun j hj => ?_, ?_⟩
  · rw [getD_set_ne (by omega)]
    exact h.low j (by omega)
  · rw [val_set _ _ _ (by omega), h.low i (by omega)]
    have hs := h.sum
    rw [val_take_succ, bp_succ] at hs
    have h1 : bp i * (m : Int) = bp i * ((m / b : Nat) : Int) * b + bp i * ((m % b : Nat) : Int) := by
      have := Nat.div_add_mod m b
      rw [Int.mul_assoc, ← Int.mul_add]
      congr 1
      rw [← Int.natCast_mul, ← Int.natCast_add]
      congr 1
      rw [Nat.mul_comm]
      exact this.symm
    have h2 : bp i * (m : Int) = 1000000000 * bp i * r + bp i * (limbs a).getD i 0 := by
      rw [hm, Int.mul_add, Int.mul_comm (r : Int), ← Int.mul_assoc, Int.mul_comm (bp i) 1000000000]
    rw [Int.sub_zero, Int.add_mul]
    omega
/-- The rest is less than b: nothing is put. -/
theorem DivInv.skip {a b i : Nat} {xs : List Int} {r m : Nat} (h : DivInv a b (i + 1) xs r) (hm : (m : Int) = r * 1000000000 + (limbs a).getD i 0) (hlt : m < b) : DivInv a b i xs m := by
  have h1 := h.step hm
  rw [Nat.div_eq_of_lt hlt, Nat.mod_eq_of_lt hlt] at h1
  have hle := h.le
  have e : xs.set i ((0 : Nat) : Int) = xs := by
    have hx := h.low i (by omega)
    have hl : i < xs.length := by rw [h.len]; omega
    rw [List.getD_eq_getElem?_getD, List.getElem?_eq_getElem hl, Option.getD_some] at hx
    apply List.ext_getElem?
    intro j
    by_cases hj : i = j
    · subst hj
      rw [List.getElem?_set_self hl, List.getElem?_eq_getElem hl, hx]
      rfl
    · rw [List.getElem?_set_ne hj]
  rwa [e] at h1
theorem DivInv.mlt {a b i : Nat} {xs : List Int} {r m : Nat} (h : DivInv a b (i + 1) xs r) (hm : (m : Int) = r * 1000000000 + (limbs a).getD i 0) : m < b * 1000000000 := by
  have hg := limbs_get a i
  have hr := h.rest
  have : (r + 1) * 1000000000 ≤ b * 1000000000 := Nat.mul_le_mul_right _ hr
  omega
theorem DivInv.done {a b : Nat} {xs : List Int} {r : Nat} (h : DivInv a b 0 xs r) : IsL xs ∧ val xs = (a / b : Nat) ∧ r = a % b := by
  have hs := h.sum
  have hb : 0 < b := Nat.lt_of_le_of_lt (Nat.zero_le _) h.rest
  have hv := val_nonneg h.ok
  obtain ⟨q, hq⟩ : ∃ q : Nat, val xs = q := ⟨(val xs).toNat, by omega⟩
  rw [hq] at hs
  have h1 : q * b + r = a := by
    have : ((q * b + r : Nat) : Int) = a := by
      rw [Int.natCast_add, Int.natCast_mul]
      simp [bp, val] at hs
      exact hs
    omega
  have hr := h.rest
  refine ⟨h.ok, ?_, ?_⟩
  · rw [hq]
    congr 1
    rw [← h1, Nat.add_comm, Nat.add_mul_div_right _ _ hb, Nat.div_eq_of_lt hr, Nat.zero_add]
  · rw [← h1, Nat.add_comm, Nat.add_mul_mod_self_right, Nat.mod_eq_of_lt hr]

/-! ### The digit, by halving -/
structure DigInv (a b : Nat) (lo hi : Int) : Prop where
  pos : 0 ≤ lo
  below : lo ≤ (a / b : Nat)
  above : ((a / b : Nat) : Int) ≤ hi
  cap : hi < 1000000000
theorem DigInv.start {a b : Nat} (hb : 0 < b) (h : a < b * 1000000000) : DigInv a b 0 999999999 := by
  have : a / b < 1000000000 := by rw [Nat.div_lt_iff_lt_mul hb, Nat.mul_comm]; exact h
  exact ⟨by omega, by generalize a / b = q at *; omega, by generalize a / b = q at *; omega, by omega⟩
theorem DigInv.take {a b : Nat} {lo hi m : Int} (h : DigInv a b lo hi) (hb : 0 < b) (h0 : 0 ≤ m) (hm : b * m.toNat ≤ a) : DigInv a b m hi := by
  have : m.toNat ≤ a / b := by rw [Nat.le_div_iff_mul_le hb, Nat.mul_comm]; exact hm
  exact ⟨h0, by generalize a / b = q at *; omega, h.above, h.cap⟩
theorem DigInv.drop {a b : Nat} {lo hi m : Int} (h : DigInv a b lo hi) (hb : 0 < b) (h0 : 1 ≤ m) (hi' : m ≤ hi) (hm : a < b * m.toNat) : DigInv a b lo (m - 1) := by
  have : a / b < m.toNat := by rw [Nat.div_lt_iff_lt_mul hb, Nat.mul_comm]; exact hm
  have := h.cap
  exact ⟨h.pos, h.below, by generalize a / b = q at *; omega, by omega⟩
theorem DigInv.done {a b : Nat} {lo hi : Int} (h : DigInv a b lo hi) (hn : ¬ lo < hi) : lo = (a / b : Nat) := by
  have := h.below
  have := h.above
  generalize a / b = q at *
  omega
end Go.Proofs.YtnbefpfijaimjaaGreatDoor
/- Whole numbers and fractions in lowest terms, as the program lays them down. Plain facts; it speaks of no program. -/
namespace Go.Proofs.YtnbefpfijaimjaaGreatDoor

/-! ### Natural numbers, whole numbers -/
open Classical in
noncomputable def natOkB (l : List Int) : Bool := decide (l.length ≤ 60 ∧ Can l)
abbrev QZ := Bool × List Int
/-- A whole number's sign and limbs. -/
def encZ (n : Int) : QZ := (decide (n < 0), limbs n.natAbs)
/-- The number of a sign and a size. -/
def sgn (b : Bool) (m : Nat) : Int := if b then -(m : Int) else m
theorem natAbs_sgn (b : Bool) (m : Nat) : (sgn b m).natAbs = m := by unfold sgn; split <;> simp
theorem sgn_neg (b : Bool) (m : Nat) : decide (sgn b m < 0) = (b && decide (m ≠ 0)) := by
  unfold sgn
  cases b
  · simp
  · by_cases h : m = 0
    · simp [h]
    · simp [h]; omega
theorem encZ_sgn (b : Bool) (m : Nat) : encZ (sgn b m) = (b && decide (m ≠ 0), limbs m) := by unfold encZ; rw [natAbs_sgn, sgn_neg]
theorem sgn_self (n : Int) : sgn (decide (n < 0)) n.natAbs = n := by
  unfold sgn
  by_cases h : n < 0
  · simp [h]; omega
  · simp [h]; omega
theorem encZ_inj {m n : Int} (h : encZ m = encZ n) : m = n := by
  have h1 := congrArg Prod.fst h
  have h2 := limbs_inj (congrArg Prod.snd h)
  simp only [encZ, decide_eq_decide] at h1
  omega
/-! ### Fractions -/
abbrev Fr := Int × Nat
def encR (f : Fr) : QR := (encZ f.1, limbs f.2)
theorem encR_inj {f g : Fr} (h : encR f = encR g) : f = g := Prod.ext (encZ_inj (congrArg Prod.fst h)) (limbs_inj (congrArg Prod.snd h))
/-- At most 24 limbs. -/
def sm (n : Nat) : Bool := decide ((limbs n).length ≤ 24)
theorem sm_iff {n : Nat} : sm n = true ↔ (limbs n).length ≤ 24 := by simp [sm]
/-- A fraction that is one. -/
def Good (f : Fr) : Prop := f.2 ≠ 0 ∧ Nat.gcd f.1.natAbs f.2 = 1 ∧ sm f.1.natAbs = true ∧ sm f.2 = true
/-- .. or nothing. -/
def Vd (f : Fr) : Prop := f = (0, 0) ∨ Good f
theorem Vd.zero : Vd (0, 0) := .inl rfl
theorem Good.vd {f : Fr} (h : Good f) : Vd f := .inr h
theorem Vd.good {f : Fr} (h : Vd f) (k : f.2 ≠ 0) : Good f := by
  rcases h with rfl | h
  · exact absurd rfl k
  · exact h
theorem Vd.sm1 {f : Fr} (h : Vd f) : (limbs f.1.natAbs).length ≤ 24 := by
  rcases h with rfl | h
  · simp [limbs_zero]
  · exact sm_iff.1 h.2.2.1
theorem Vd.sm2 {f : Fr} (h : Vd f) : (limbs f.2).length ≤ 24 := by
  rcases h with rfl | h
  · simp [limbs_zero]
  · exact sm_iff.1 h.2.2.2
theorem Vd.of_bad {f : Fr} (h : Vd f) (k : f.2 = 0) : f = (0, 0) := by
  rcases h with rfl | h
  · rfl
  · exact absurd k h.1
def frMk (n : Int) (d : Nat) : Fr :=
  if sm (n.natAbs / Nat.gcd n.natAbs d) && sm (d / Nat.gcd n.natAbs d) then (sgn (decide (n < 0)) (n.natAbs / Nat.gcd n.natAbs d), d / Nat.gcd n.natAbs d) else (0, 0)
theorem frMk_vd (n : Int) {d : Nat} (hd : d ≠ 0) : Vd (frMk n d) := by
  unfold frMk
  split
  · rename_i h
    rw [Bool.and_eq_true] at h
    right
    have hg : 0 < Nat.gcd n.natAbs d := Nat.gcd_pos_of_pos_right _ (Nat.pos_of_ne_zero hd)
    refine ⟨?_, ?_, by rw [natAbs_sgn]; exact h.1, h.2⟩
    · have := Nat.le_of_dvd (Nat.pos_of_ne_zero hd) (Nat.gcd_dvd_right n.natAbs d)
      have := Nat.div_pos this hg
      show d / Nat.gcd n.natAbs d ≠ 0
      omega
    · rw [natAbs_sgn]
      have := Nat.gcd_div (Nat.gcd_dvd_left n.natAbs d) (Nat.gcd_dvd_right n.natAbs d)
      show Nat.gcd (n.natAbs / Nat.gcd n.natAbs d) (d / Nat.gcd n.natAbs d) = 1
      rw [this, Nat.div_self hg]
  · exact .inl rfl
/-- In lowest terms already. -/
theorem frMk_good {f : Fr} (h : Good f) : frMk f.1 f.2 = f := by
  unfold frMk
  rw [h.2.1, Nat.div_one, Nat.div_one, h.2.2.1, h.2.2.2, sgn_self]
  rfl
def frAdd (r s : Fr) : Fr := if r.2 = 0 ∨ s.2 = 0 then (0, 0) else frMk (r.1 * s.2 + s.1 * r.2) (r.2 * s.2)
def frMul (r s : Fr) : Fr := if r.2 = 0 ∨ s.2 = 0 then (0, 0) else frMk (r.1 * s.1) (r.2 * s.2)
def frDiv (r s : Fr) : Fr := if r.2 = 0 ∨ s.2 = 0 ∨ s.1 = 0 then (0, 0) else frMk (sgn (decide (r.1 < 0) != decide (s.1 < 0)) (r.1.natAbs * s.2)) (r.2 * s.1.natAbs)
def frNeg (r : Fr) : Fr := (-r.1, r.2)
def frSub (r s : Fr) : Fr := frAdd r (frNeg s)
def frCmp (r s : Fr) : Int := if r.2 = 0 ∨ s.2 = 0 then 0 else cmpI (r.1 * s.2) (s.1 * r.2)
def frInt (n : Int) : Fr := (n, 1)
def frSign (r : Fr) : Int := if r.2 = 0 then 0 else cmpI r.1 0
theorem frAdd_vd {r s : Fr} : Vd (frAdd r s) := by
  unfold frAdd
  split
  · exact .inl rfl
  · rename_i h
    exact frMk_vd _ (Nat.mul_ne_zero (fun e => h (.inl e)) (fun e => h (.inr e)))
theorem frMul_vd {r s : Fr} : Vd (frMul r s) := by
  unfold frMul
  split
  · exact .inl rfl
  · rename_i h
    exact frMk_vd _ (Nat.mul_ne_zero (fun e => h (.inl e)) (fun e => h (.inr e)))
theorem frDiv_vd {r s : Fr} : Vd (frDiv r s) := by
  unfold frDiv
  split
  · exact .inl rfl
  · rename_i h
    exact frMk_vd _ (Nat.mul_ne_zero (fun e => h (.inl e)) (fun e => h (.inr (.inr (by omega)))))
theorem frNeg_vd {r : Fr} (h : Vd r) : Vd (frNeg r) := by
  rcases h with rfl | h
  · exact .inl rfl
  · right
    obtain ⟨h1, h2, h3, h4⟩ := h
    refine ⟨h1, ?_, ?_, h4⟩
    · show Nat.gcd (-r.1).natAbs r.2 = 1
      rw [Int.natAbs_neg]; exact h2
    · show sm (-r.1).natAbs = true
      rw [Int.natAbs_neg]; exact h3
theorem frSub_vd {r s : Fr} : Vd (frSub r s) := frAdd_vd
theorem limbs_1 : limbs 1 = [1] := by
  have := limbs_one (n := 1) (by decide) (by decide)
  simpa using this
theorem frInt_vd {n : Int} (h : In64 n) : Vd (frInt n) := by
  have h1 := h.out
  refine .inr ⟨Nat.one_ne_zero, Nat.gcd_one_right _, sm_iff.2 (limbs_len_le.2 ?_), sm_iff.2 (by show (limbs 1).length ≤ 24; rw [limbs_1]; decide)⟩
  have h2 := bp_mono (show 3 ≤ 24 by decide)
  have h3 : bp 3 = 1000000000000000000000000000 := by decide
  show ((n.natAbs : Nat) : Int) < bp 24
  omega
theorem limbs_is1 {n : Nat} : limbs n = [1] ↔ n = 1 := ⟨fun h => limbs_inj (h.trans limbs_1.symm), fun h => by rw [h, limbs_1]⟩
end Go.Proofs.YtnbefpfijaimjaaGreatDoor
