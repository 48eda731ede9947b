/- The schoolbook algorithms on limbs, step by step. Plain facts; it speaks of no program. -/
import Derived.Test.YtkhcblheekfdmaaLimb
namespace Go.Proofs.Ytkhcblheekfdmaa

theorem tm_eq {n : Int} (h : 0 ≤ n) : n.tmod 1000000000 = n % 1000000000 := Int.tmod_eq_emod_of_nonneg h
theorem td_eq {n : Int} (h : 0 ≤ n) : n.tdiv 1000000000 = n / 1000000000 := Int.tdiv_eq_ediv_of_nonneg h

/-! ### Sum -/
structure AddInv (a b i : Nat) (xs : List Int) (c : Int) : Prop where
  len : xs.length = i
  ok : IsL xs
  car : c = 0 ∨ c = 1
  sum : val xs + bp i * c = val ((limbs a).take i) + val ((limbs b).take i)
  top : i ≤ max (limbs a).length (limbs b).length ∨ (c = 0 ∧ i = max (limbs a).length (limbs b).length + 1 ∧ bp (i - 1) ≤ val xs)
theorem AddInv.start (a b : Nat) : AddInv a b 0 [] 0 := ⟨rfl, IsL.nil, .inl rfl, by simp [val], .inl (Nat.zero_le _)⟩
theorem AddInv.step {a b i : Nat} {xs : List Int} {c : Int} (h : AddInv a b i xs c) (hg : i < (limbs a).length ∨ i < (limbs b).length ∨ 0 < c) {n : Int} (hn : n = (limbs a).getD i 0 + (limbs b).getD i 0 + c) :
    AddInv a b (i + 1) (xs ++ [n.tmod 1000000000]) (n.tdiv 1000000000) := by
  have ha := limbs_get a i
  have hb := limbs_get b i
  have hc := h.car
  have hn0 : 0 ≤ n := by omega
  rw [tm_eq hn0, td_eq hn0]
  have e1 := val_take_succ (limbs a) i
  have e2 := val_take_succ (limbs b) i
  have hs := h.sum
  have key : val (xs ++ [n % 1000000000]) + bp (i + 1) * (n / 1000000000) = val ((limbs a).take (i + 1)) + val ((limbs b).take (i + 1)) := by
    rw [val_snoc, h.len, e1, e2, bp_succ]
    have h1 : bp i * n = bp i * (n % 1000000000) + 1000000000 * bp i * (n / 1000000000) := by
      have := Int.mul_ediv_add_emod n 1000000000
      calc bp i * n = bp i * (1000000000 * (n / 1000000000) + n % 1000000000) := by rw [this]
        _ = _ := by rw [Int.mul_add, ← Int.mul_assoc, Int.mul_comm (bp i) 1000000000]; omega
    have h2 : bp i * n = bp i * (limbs a).getD i 0 + bp i * (limbs b).getD i 0 + bp i * c := by rw [hn, Int.mul_add, Int.mul_add]
    omega
  refine ⟨by simp [h.len], h.ok.app (IsL.one (by omega)), by omega, key, ?_⟩
  rcases h.top with ht | ⟨h0, h1, _⟩
  · by_cases hi : i < max (limbs a).length (limbs b).length
    · exact .inl (by omega)
    · right
      have hi' : i = max (limbs a).length (limbs b).length := by omega
      have ga : (limbs a).getD i 0 = 0 := by rw [List.getD_eq_getElem?_getD, List.getElem?_eq_none (by omega)]; rfl
      have gb : (limbs b).getD i 0 = 0 := by rw [List.getD_eq_getElem?_getD, List.getElem?_eq_none (by omega)]; rfl
      have hc1 : c = 1 := by omega
      have hn1 : n = 1 := by omega
      refine ⟨by omega, by omega, ?_⟩
      rw [val_snoc, h.len]
      have hv := val_nonneg h.ok
      subst hn1
      simp
      omega
  · omega
theorem AddInv.done {a b i : Nat} {xs : List Int} {c : Int} (h : AddInv a b i xs c) (h1 : ¬ i < (limbs a).length) (h2 : ¬ i < (limbs b).length) (h3 : ¬ 0 < c) : xs = limbs (a + b) := by
  have hc : c = 0 := by have := h.car; omega
  subst hc
  have hs := h.sum
  rw [val_take_all _ (by omega), val_take_all _ (by omega), limbs_val, limbs_val] at hs
  refine can_limbs ⟨h.ok, ?_⟩ (by omega)
  rw [h.len]
  rcases h.top with ht | ⟨_, _, ht⟩
  · by_cases h0 : i = 0
    · left
      exact List.eq_nil_of_length_eq_zero (by rw [h.len, h0])
    · right
      have hi : i = max (limbs a).length (limbs b).length := by omega
      by_cases hab : (limbs a).length ≤ (limbs b).length
      · have := limbs_ge (n := b) (limbs_len_pos.1 (by omega))
        rw [show (limbs b).length = i by omega] at this
        omega
      · have := limbs_ge (n := a) (limbs_len_pos.1 (by omega))
        rw [show (limbs a).length = i by omega] at this
        omega
  · exact .inr ht

/-! ### Difference -/
structure SubInv (a b i : Nat) (xs : List Int) (c : Int) : Prop where
  len : xs.length = i
  ok : IsL xs
  car : c = 0 ∨ c = 1
  sum : val xs + val ((limbs b).take i) = val ((limbs a).take i) + bp i * c
theorem SubInv.start (a b : Nat) : SubInv a b 0 [] 0 := ⟨rfl, IsL.nil, .inl rfl, by simp [val]⟩
theorem SubInv.step {a b i : Nat} {xs : List Int} {c n d : Int} (h : SubInv a b i xs c) (hd : 0 ≤ d ∧ d < 1000000000) {c' : Int} (hc' : c' = 0 ∨ c' = 1) (hn : n = (limbs a).getD i 0 - (limbs b).getD i 0 - c) (hdn : d = n + 1000000000 * c') :
    SubInv a b (i + 1) (xs ++ [d]) c' := by
  have e1 := val_take_succ (limbs a) i
  have e2 := val_take_succ (limbs b) i
  have hs := h.sum
  refine ⟨by simp [h.len], h.ok.app (IsL.one hd), hc', ?_⟩
  rw [val_snoc, h.len, e1, e2, bp_succ]
  have h1 : bp i * d = bp i * (limbs a).getD i 0 - bp i * (limbs b).getD i 0 - bp i * c + 1000000000 * bp i * c' := by
    rw [hdn, hn, Int.mul_add, Int.mul_sub, Int.mul_sub, ← Int.mul_assoc, Int.mul_comm (bp i) 1000000000]
  omega
theorem SubInv.done {a b : Nat} {xs : List Int} {c : Int} (h : SubInv a b (limbs a).length xs c) (hab : b ≤ a) : IsL xs ∧ val xs = (a - b : Nat) := by
  have hs := h.sum
  rw [val_take_all _ (Nat.le_refl _), val_take_all _ (limbs_len_mono hab), limbs_val, limbs_val] at hs
  refine ⟨h.ok, ?_⟩
  have h1 := val_lt h.ok
  rw [h.len] at h1
  rcases h.car with rfl | rfl
  · omega
  · omega

/-! ### Product -/
/-- The row before round i. -/
structure MulInv (a b i : Nat) (xs : List Int) : Prop where
  len : xs.length = (limbs a).length + (limbs b).length
  ok : IsL xs
  sum : val xs = val ((limbs a).take i) * b
theorem MulInv.start (a b : Nat) : MulInv a b 0 (List.replicate ((limbs a).length + (limbs b).length) 0) := ⟨by simp, isL_zeros _, by simp [val, val_replicate_zero]⟩
/-- Within round i, before limb k. -/
structure MulRow (a b i k : Nat) (xs : List Int) (c : Int) : Prop where
  len : xs.length = (limbs a).length + (limbs b).length
  ok : IsL xs
  car : 0 ≤ c ∧ c < 1000000000
  lt : i < (limbs a).length
  sum : val xs + bp (i + k) * c = val ((limbs a).take i) * b + bp i * ((limbs a).getD i 0 * val ((limbs b).take k))
theorem MulInv.open {a b i : Nat} {xs : List Int} (h : MulInv a b i xs) (hi : i < (limbs a).length) : MulRow a b i 0 xs 0 := ⟨h.len, h.ok, by omega, hi, by simp [val, h.sum]⟩
theorem mulTop (a b i : Nat) : val ((limbs a).take i) * b + bp i * ((limbs a).getD i 0 * b) = val ((limbs a).take (i + 1)) * b := by
  rw [val_take_succ, Int.add_mul, Int.mul_assoc]
theorem mul_lt_top (a b i : Nat) : val ((limbs a).take (i + 1)) * b < bp (i + 1 + (limbs b).length) := by
  have h1 := limbs_take_lt a (i + 1)
  have h2 := limbs_lt b
  have h3 := limbs_take_nonneg a (i + 1)
  rw [bp_add]
  have h4 : val ((limbs a).take (i + 1)) * b ≤ val ((limbs a).take (i + 1)) * bp (limbs b).length := Int.mul_le_mul_of_nonneg_left (by omega) h3
  have h5 : val ((limbs a).take (i + 1)) * bp (limbs b).length < bp (i + 1) * bp (limbs b).length := Int.mul_lt_mul_of_pos_right h1 (bp_pos _)
  omega
theorem MulRow.le {a b i k : Nat} {xs : List Int} {c : Int} (h : MulRow a b i k xs c) : val xs + bp (i + k) * c ≤ val ((limbs a).take (i + 1)) * b := by
  have h1 : (limbs a).getD i 0 * val ((limbs b).take k) ≤ (limbs a).getD i 0 * b := by
    refine Int.mul_le_mul_of_nonneg_left ?_ (limbs_get a i).1
    by_cases hk : k ≤ (limbs b).length
    · have h2 := val_drop (limbs b) k hk
      rw [limbs_val] at h2
      have : 0 ≤ bp k * val ((limbs b).drop k) := Int.mul_nonneg (Int.le_of_lt (bp_pos _)) (val_nonneg ((limbs_isL b).drop k))
      omega
    · rw [val_take_all _ (by omega), limbs_val]
      exact Int.le_refl _
  have h3 : bp i * ((limbs a).getD i 0 * val ((limbs b).take k)) ≤ bp i * ((limbs a).getD i 0 * b) := Int.mul_le_mul_of_nonneg_left h1 (Int.le_of_lt (bp_pos _))
  have h4 := mulTop a b i
  have := h.sum
  omega
/-- The place is there as long as limbs or a carry are left. -/
theorem MulRow.room {a b i k : Nat} {xs : List Int} {c : Int} (h : MulRow a b i k xs c) (hg : k < (limbs b).length ∨ 0 < c) : i + k < xs.length := by
  rw [h.len]
  have hi := h.lt
  rcases hg with hg | hg
  · omega
  · by_cases hb : b = 0
    · subst hb
      have h1 := h.le
      simp at h1
      have h2 := val_nonneg h.ok
      have h3 : bp (i + k) * 1 ≤ bp (i + k) * c := Int.mul_le_mul_of_nonneg_left (by omega) (Int.le_of_lt (bp_pos _))
      have := bp_pos (i + k)
      omega
    · have h1 := h.le
      have h2 := mul_lt_top a b i
      have h4 := val_nonneg h.ok
      have h3 : bp (i + k) * 1 ≤ bp (i + k) * c := Int.mul_le_mul_of_nonneg_left (by omega) (Int.le_of_lt (bp_pos _))
      apply Classical.byContradiction
      intro hn
      have := bp_mono (show i + 1 + (limbs b).length ≤ i + k by omega)
      omega
theorem MulRow.bound {a b i k : Nat} {xs : List Int} {c : Int} (h : MulRow a b i k xs c) (p : Nat) : 0 ≤ (limbs a).getD i 0 * (limbs b).getD k 0 ∧ (limbs a).getD i 0 * (limbs b).getD k 0 ≤ 999999998000000001 ∧ 0 ≤ xs.getD p 0 ∧ xs.getD p 0 < 1000000000 := by
  have h1 := limbs_get a i
  have h2 := limbs_get b k
  have h3 := h.ok.get p
  refine ⟨Int.mul_nonneg h1.1 h2.1, ?_, h3.1, h3.2⟩
  have h4 : (limbs a).getD i 0 * (limbs b).getD k 0 ≤ (limbs a).getD i 0 * 999999999 := Int.mul_le_mul_of_nonneg_left (by omega) h1.1
  omega
theorem MulRow.step {a b i k : Nat} {xs : List Int} {c n : Int} (h : MulRow a b i k xs c) (hp : i + k < xs.length) (hn : n = xs.getD (i + k) 0 + (limbs a).getD i 0 * (limbs b).getD k 0 + c) :
    MulRow a b i (k + 1) (xs.set (i + k) (n.tmod 1000000000)) (n.tdiv 1000000000) := by
  obtain ⟨b1, b2, b3, b4⟩ := h.bound (i + k)
  have hc := h.car
  have hn0 : 0 ≤ n := by omega
  rw [tm_eq hn0, td_eq hn0]
  refine ⟨by simp [h.len], h.ok.set (by omega), by omega, h.lt, ?_⟩
  have hs := h.sum
  rw [val_set _ _ _ hp, val_take_succ, ← Nat.add_assoc, bp_succ]
  have h1 : bp (i + k) * n = bp (i + k) * (n % 1000000000) + 1000000000 * bp (i + k) * (n / 1000000000) := by
    have := Int.mul_ediv_add_emod n 1000000000
    calc bp (i + k) * n = bp (i + k) * (1000000000 * (n / 1000000000) + n % 1000000000) := by rw [this]
      _ = _ := by rw [Int.mul_add, ← Int.mul_assoc, Int.mul_comm (bp (i + k)) 1000000000]; omega
  have h2 : bp (i + k) * n = bp (i + k) * xs.getD (i + k) 0 + bp (i + k) * ((limbs a).getD i 0 * (limbs b).getD k 0) + bp (i + k) * c := by rw [hn, Int.mul_add, Int.mul_add]
  have h3 : bp i * ((limbs a).getD i 0 * (val ((limbs b).take k) + bp k * (limbs b).getD k 0)) = bp i * ((limbs a).getD i 0 * val ((limbs b).take k)) + bp (i + k) * ((limbs a).getD i 0 * (limbs b).getD k 0) := by
    rw [Int.mul_add, Int.mul_add, bp_add]
    congr 1
    rw [Int.mul_assoc (bp i) (bp k), Int.mul_left_comm (bp k)]
  rw [h3, Int.mul_sub]
  omega
theorem MulRow.close {a b i k : Nat} {xs : List Int} {c : Int} (h : MulRow a b i k xs c) (hk : ¬ k < (limbs b).length) (hc : ¬ 0 < c) : MulInv a b (i + 1) xs := by
  have hc0 : c = 0 := by have := h.car; omega
  subst hc0
  have hs := h.sum
  rw [val_take_all (limbs b) (by omega), limbs_val, mulTop] at hs
  exact ⟨h.len, h.ok, by omega⟩
/-- The reference's way: the last carry is put where nothing was. -/
theorem MulRow.last {a b i : Nat} {xs : List Int} {c : Int} (h : MulRow a b i (limbs b).length xs c) (hx : val xs < bp (i + (limbs b).length)) : MulInv a b (i + 1) (xs.set (i + (limbs b).length) c) := by
  have hi := h.lt
  have hz := high_zero h.ok hx (i + (limbs b).length) (Nat.le_refl _)
  refine ⟨by simp [h.len], h.ok.set h.car, ?_⟩
  rw [val_set _ _ _ (by rw [h.len]; omega), hz]
  have hs := h.sum
  rw [val_take_all (limbs b) (Nat.le_refl _), limbs_val, mulTop] at hs
  simp
  omega
theorem MulInv.done {a b : Nat} {xs : List Int} (h : MulInv a b (limbs a).length xs) : IsL xs ∧ val xs = (a * b : Nat) := by
  refine ⟨h.ok, ?_⟩
  rw [h.sum, val_take_all _ (Nat.le_refl _), limbs_val, Int.natCast_mul]

/-! ### Quotient, from the highest limb down -/
/-- i limbs are left. -/
structure DivInv (a b i : Nat) (xs : List Int) (r : Nat) : Prop where
  len : xs.length = (limbs a).length
  ok : IsL xs
  le : i ≤ (limbs a).length
  rest : r < b
  low : ∀ j, j < i → xs.getD j 0 = 0
  sum : val xs * b + bp i * r + val ((limbs a).take i) = a
theorem getD_replicate_zero (n j : Nat) : (List.replicate n (0 : Int)).getD j 0 = 0 := by
  rw [List.getD_eq_getElem?_getD, List.getElem?_replicate]
  split <;> rfl
theorem DivInv.start (a b : Nat) (hb : b ≠ 0) : DivInv a b (limbs a).length (List.replicate (limbs a).length 0) 0 :=
  ⟨by simp, isL_zeros _, Nat.le_refl _, by omega, fun j _ => getD_replicate_zero _ j, by rw [val_replicate_zero, val_take_all _ (Nat.le_refl _), limbs_val]; simp⟩
/-- One limb more: m is the rest with the limb behind it. -/
theorem DivInv.step {a b i : Nat} {xs : List Int} {r m : Nat} (h : DivInv a b (i + 1) xs r) (hm : (m : Int) = r * 1000000000 + (limbs a).getD i 0) : DivInv a b i (xs.set i ((m / b : Nat) : Int)) (m % b) := by
  have hb : 0 < b := Nat.lt_of_le_of_lt (Nat.zero_le _) h.rest
  have hle := h.le
  have hlen := h.len
  have hg := limbs_get a i
  have hr := h.rest
  have hmb : m < b * 1000000000 := by
    have : (r + 1) * 1000000000 ≤ b * 1000000000 := Nat.mul_le_mul_right _ hr
    omega
  have hq : m / b < 1000000000 := by
    rw [Nat.div_lt_iff_lt_mul hb, Nat.mul_comm]
    exact hmb
  refine ⟨by simp [h.len], h.ok.set (by generalize m / b = q at *; omega), by omega, Nat.mod_lt _ hb, fun j hj => ?_, ?_⟩
  · rw [getD_set_ne (by omega)]
    exact h.low j (by omega)
  · rw [val_set _ _ _ (by omega), h.low i (by omega)]
    have hs := h.sum
    rw [val_take_succ, bp_succ] at hs
    have h1 : bp i * (m : Int) = bp i * ((m / b : Nat) : Int) * b + bp i * ((m % b : Nat) : Int) := by
      have := Nat.div_add_mod m b
      rw [Int.mul_assoc, ← Int.mul_add]
      congr 1
      rw [← Int.natCast_mul, ← Int.natCast_add]
      congr 1
      rw [Nat.mul_comm]
      exact this.symm
    have h2 : bp i * (m : Int) = 1000000000 * bp i * r + bp i * (limbs a).getD i 0 := by
      rw [hm, Int.mul_add, Int.mul_comm (r : Int), ← Int.mul_assoc, Int.mul_comm (bp i) 1000000000]
    rw [Int.sub_zero, Int.add_mul]
    omega
/-- The rest is less than b: nothing is put. -/
theorem DivInv.skip {a b i : Nat} {xs : List Int} {r m : Nat} (h : DivInv a b (i + 1) xs r) (hm : (m : Int) = r * 1000000000 + (limbs a).getD i 0) (hlt : m < b) : DivInv a b i xs m := by
  have h1 := h.step hm
  rw [Nat.div_eq_of_lt hlt, Nat.mod_eq_of_lt hlt] at h1
  have hle := h.le
  have e : xs.set i ((0 : Nat) : Int) = xs := by
    have hx := h.low i (by omega)
    have hl : i < xs.length := by rw [h.len]; omega
    rw [List.getD_eq_getElem?_getD, List.getElem?_eq_getElem hl, Option.getD_some] at hx
    apply List.ext_getElem?
    intro j
    by_cases hj : i = j
    · subst hj
      rw [List.getElem?_set_self hl, List.getElem?_eq_getElem hl, hx]
      rfl
    · rw [List.getElem?_set_ne hj]
  rwa [e] at h1
theorem DivInv.mlt {a b i : Nat} {xs : List Int} {r m : Nat} (h : DivInv a b (i + 1) xs r) (hm : (m : Int) = r * 1000000000 + (limbs a).getD i 0) : m < b * 1000000000 := by
  have hg := limbs_get a i
  have hr := h.rest
  have : (r + 1) * 1000000000 ≤ b * 1000000000 := Nat.mul_le_mul_right _ hr
  omega
theorem DivInv.done {a b : Nat} {xs : List Int} {r : Nat} (h : DivInv a b 0 xs r) : IsL xs ∧ val xs = (a / b : Nat) ∧ r = a % b := by
  have hs := h.sum
  have hb : 0 < b := Nat.lt_of_le_of_lt (Nat.zero_le _) h.rest
  have hv := val_nonneg h.ok
  obtain ⟨q, hq⟩ : ∃ q : Nat, val xs = q := ⟨(val xs).toNat, by omega⟩
  rw [hq] at hs
  have h1 : q * b + r = a := by
    have : ((q * b + r : Nat) : Int) = a := by
      rw [Int.natCast_add, Int.natCast_mul]
      simp [bp, val] at hs
      exact hs
    omega
  have hr := h.rest
  refine ⟨h.ok, ?_, ?_⟩
  · rw [hq]
    congr 1
    rw [← h1, Nat.add_comm, Nat.add_mul_div_right _ _ hb, Nat.div_eq_of_lt hr, Nat.zero_add]
  · rw [← h1, Nat.add_comm, Nat.add_mul_mod_self_right, Nat.mod_eq_of_lt hr]

/-! ### The digit, by halving -/
structure DigInv (a b : Nat) (lo hi : Int) : Prop where
  pos : 0 ≤ lo
  below : lo ≤ (a / b : Nat)
  above : ((a / b : Nat) : Int) ≤ hi
  cap : hi < 1000000000
theorem DigInv.start {a b : Nat} (hb : 0 < b) (h : a < b * 1000000000) : DigInv a b 0 999999999 := by
  have : a / b < 1000000000 := by rw [Nat.div_lt_iff_lt_mul hb, Nat.mul_comm]; exact h
  exact ⟨by omega, by generalize a / b = q at *; omega, by generalize a / b = q at *; omega, by omega⟩
theorem DigInv.take {a b : Nat} {lo hi m : Int} (h : DigInv a b lo hi) (hb : 0 < b) (h0 : 0 ≤ m) (hm : b * m.toNat ≤ a) : DigInv a b m hi := by
  have : m.toNat ≤ a / b := by rw [Nat.le_div_iff_mul_le hb, Nat.mul_comm]; exact hm
  exact ⟨h0, by generalize a / b = q at *; omega, h.above, h.cap⟩
theorem DigInv.drop {a b : Nat} {lo hi m : Int} (h : DigInv a b lo hi) (hb : 0 < b) (h0 : 1 ≤ m) (hi' : m ≤ hi) (hm : a < b * m.toNat) : DigInv a b lo (m - 1) := by
  have : a / b < m.toNat := by rw [Nat.div_lt_iff_lt_mul hb, Nat.mul_comm]; exact hm
  have := h.cap
  exact ⟨h.pos, h.below, by generalize a / b = q at *; omega, by omega⟩
theorem DigInv.done {a b : Nat} {lo hi : Int} (h : DigInv a b lo hi) (hn : ¬ lo < hi) : lo = (a / b : Nat) := by
  have := h.below
  have := h.above
  generalize a / b = q at *
  omega
end Go.Proofs.Ytkhcblheekfdmaa
