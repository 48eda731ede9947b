/- The square of the distance from a segment: plain facts. It speaks of no program. -/
import Derived.Test.YteihkhniibncnaaGreatSqd
import Derived.Test.YteihkhniibncnaaGreatInn
import Derived.Test.YteihkhniibncnaaGreatSdv
namespace Go.Proofs.YteihkhniibncnaaGreat
open Go.RowKit
def minF (f g : Fr) : Fr := if f.2 = 0 ∨ g.2 = 0 then (0, 0) else if frCmp f g ≤ 0 then f else g
def maxF (f g : Fr) : Fr := if f.2 = 0 ∨ g.2 = 0 then (0, 0) else if 0 ≤ frCmp f g then f else g
theorem minF_vd {f g : Fr} (hf : Vd f) (hg : Vd g) : Vd (minF f g) := by
  unfold minF
  split
  · exact .inl rfl
  · split <;> assumption
theorem maxF_vd {f g : Fr} (hf : Vd f) (hg : Vd g) : Vd (maxF f g) := by
  unfold maxF
  split
  · exact .inl rfl
  · split <;> assumption
theorem frCmp_flip {f g : Fr} (hf : Vd f) (hg : Vd g) : frCmp g f = -frCmp f g ∧ (f.2 ≠ 0 → g.2 ≠ 0 → frCmp f g = 0 → f = g) := by
  unfold frCmp
  by_cases h : f.2 = 0 ∨ g.2 = 0
  · rw [if_pos h, if_pos (Or.comm.1 h)]
    exact ⟨rfl, fun a b => absurd h (fun k => k.elim a b)⟩
  · rw [if_neg h, if_neg (fun k => h (Or.comm.1 k))]
    refine ⟨by unfold cmpI; (repeat' split) <;> omega, fun a b k => good_eq (hf.good a) (hg.good b) (cmpI_zero.1 k)⟩
theorem minF_comm {f g : Fr} (hf : Vd f) (hg : Vd g) : minF f g = minF g f := by
  obtain ⟨h1, h2⟩ := frCmp_flip hf hg
  unfold minF
  by_cases h : f.2 = 0 ∨ g.2 = 0
  · rw [if_pos h, if_pos (Or.comm.1 h)]
  · rw [if_neg h, if_neg (fun k => h (Or.comm.1 k)), h1]
    have ha : f.2 ≠ 0 := fun k => h (.inl k)
    have hb : g.2 ≠ 0 := fun k => h (.inr k)
    by_cases h3 : frCmp f g = 0
    · rw [h2 ha hb h3]; simp
    · by_cases h4 : frCmp f g ≤ 0
      · rw [if_pos h4, if_neg (by omega)]
      · rw [if_neg h4, if_pos (by omega)]
theorem maxF_comm {f g : Fr} (hf : Vd f) (hg : Vd g) : maxF f g = maxF g f := by
  obtain ⟨h1, h2⟩ := frCmp_flip hf hg
  unfold maxF
  by_cases h : f.2 = 0 ∨ g.2 = 0
  · rw [if_pos h, if_pos (Or.comm.1 h)]
  · rw [if_neg h, if_neg (fun k => h (Or.comm.1 k)), h1]
    have ha : f.2 ≠ 0 := fun k => h (.inl k)
    have hb : g.2 ≠ 0 := fun k => h (.inr k)
    by_cases h3 : frCmp f g = 0
    · rw [h2 ha hb h3]; simp
    · by_cases h4 : 0 ≤ frCmp f g
      · rw [if_pos h4, if_neg (by omega)]
      · rw [if_neg h4, if_pos (by omega)]
theorem frVd01 : Vd (frInt 0) := frInt_vd (In64.small (by decide))
theorem frVd1 : Vd (frInt 1) := frInt_vd (In64.small (by decide))
theorem clampF {t : Fr} (ht : Vd t) : minF (frInt 1) (maxF (frInt 0) t) = minF (maxF t (frInt 0)) (frInt 1) := by
  rw [maxF_comm frVd01 ht, minF_comm frVd1 (maxF_vd ht frVd01)]
theorem innF_comm (a b p : QP) : innF a p b = innF a b p := by
  unfold innF
  rw [frMul_comm (frSub (frOf p.1) (frOf a.1)), frMul_comm (frSub (frOf p.2) (frOf a.2))]
noncomputable def segT (p a b : QP) : Fr := minF (maxF (frDiv (innF a b p) (sqF a b)) (frInt 0)) (frInt 1)
noncomputable def segX (p a b : QP) : Fr := frAdd (frOf a.1) (frMul (segT p a b) (frSub (frOf b.1) (frOf a.1)))
noncomputable def segY (p a b : QP) : Fr := frAdd (frOf a.2) (frMul (segT p a b) (frSub (frOf b.2) (frOf a.2)))
noncomputable def segF (p a b : QP) : Fr := if frSign (sqF a b) = 0 then frAdd (frMul (sqF a b) (sqF a b)) (sqF p a) else sqF p (encR (segX p a b), encR (segY p a b))
theorem frMk_zero {d : Nat} (hd : d ≠ 0) : frMk 0 d = (0, 1) := by
  have hp := Nat.pos_of_ne_zero hd
  unfold frMk
  rw [Int.natAbs_zero, Nat.gcd_zero_left, Nat.zero_div, Nat.div_self hp]
  have h0 : sm 0 = true := by rw [sm_iff, limbs_zero]; decide
  have h1 : sm 1 = true := by rw [sm_iff, limbs_1]; decide
  rw [h0, h1]
  rfl
theorem frSub_self {x : Fr} (h : x.2 ≠ 0) : frSub x x = (0, 1) := by
  unfold frSub frAdd frNeg
  rw [if_neg (fun k => k.elim h h)]
  show frMk (x.1 * (x.2 : Int) + -x.1 * (x.2 : Int)) (x.2 * x.2) = (0, 1)
  rw [Int.neg_mul, Int.add_right_neg, frMk_zero (Nat.mul_ne_zero h h)]
theorem frMul_00 : frMul (0, 1) (0, 1) = (0, 1) := by
  unfold frMul
  rw [if_neg (by decide)]
  exact frMk_zero (by decide)
theorem frAdd_0 {s : Fr} (h : Vd s) : frAdd (0, 1) s = s := by
  rcases h with rfl | h
  · exact frAdd_r rfl
  · unfold frAdd
    rw [if_neg (fun k => k.elim (by decide) h.1)]
    show frMk (0 * (s.2 : Int) + s.1 * ((1 : Nat) : Int)) (1 * s.2) = s
    rw [Int.zero_mul, Int.zero_add, Int.natCast_one, Int.mul_one, Nat.one_mul]
    exact frMk_good h
theorem pt_parts {a : QP} (h : pointB a = true) : ratOkB a.1 = true ∧ ratOkB a.2 = true := by
  unfold pointB at h
  rw [Bool.and_eq_true] at h
  exact h
theorem fr_nz {x : QR} (h : ratOkB x = true) : (frOf x).2 ≠ 0 := by
  rw [ratOk_frOf] at h
  exact of_decide_eq_true h
theorem sqF_self {a : QP} (h : pointB a = true) : sqF a a = (0, 1) := by
  obtain ⟨h1, h2⟩ := pt_parts h
  unfold sqF
  rw [frSub_self (fr_nz h1), frSub_self (fr_nz h2), frMul_00, frAdd_0 (.inr ⟨by decide, rfl, by rw [sm_iff]; show (limbs 0).length ≤ 24; rw [limbs_zero]; decide, by rw [sm_iff, limbs_1]; decide⟩)]
theorem segF_same {p a b : QP} (ha : pointB a = true) (h : a = b) : segF p a b = sqF p a := by
  subst h
  unfold segF
  rw [sqF_self ha, if_pos (by unfold frSign; rw [if_neg (by decide)]; exact cmpI_zero.2 rfl), frMul_00]
  exact frAdd_0 frAdd_vd
theorem frMk_num0 {n : Int} {d : Nat} (h1 : (frMk n d).2 ≠ 0) (h2 : (frMk n d).1 = 0) : n = 0 := by
  unfold frMk at h1 h2
  split at h1
  · rename_i k
    rw [if_pos k] at h2
    have h3 := congrArg Int.natAbs h2
    rw [natAbs_sgn, Int.natAbs_zero] at h3
    rcases Nat.eq_zero_or_pos (Nat.gcd n.natAbs d) with h4 | h4
    · exact Int.natAbs_eq_zero.1 (Nat.gcd_eq_zero_iff.1 h4).1
    · have h5 := Nat.div_mul_cancel (Nat.gcd_dvd_left n.natAbs d)
      rw [h3, Nat.zero_mul] at h5
      exact Int.natAbs_eq_zero.1 h5.symm
  · exact absurd rfl h1
theorem frMk_nn {n : Int} {d : Nat} (h : 0 ≤ n) : 0 ≤ (frMk n d).1 := by
  unfold frMk
  split
  · rw [decide_eq_false (by omega)]
    exact Int.natCast_nonneg _
  · exact Int.le_refl _
theorem sq_nn (n : Int) : 0 ≤ n * n := by
  rw [← Int.natAbs_mul_self]
  exact Int.natCast_nonneg _
/-- A sum of squares that is nothing. -/
theorem sq_zero {x y : Fr} (h1 : (frAdd (frMul x x) (frMul y y)).2 ≠ 0) (h2 : (frAdd (frMul x x) (frMul y y)).1 = 0) : (x.2 ≠ 0 ∧ x.1 = 0) ∧ (y.2 ≠ 0 ∧ y.1 = 0) := by
  have hA : (frMul x x).2 ≠ 0 := fun k => h1 (by unfold frAdd; rw [if_pos (.inl k)])
  have hB : (frMul y y).2 ≠ 0 := fun k => h1 (by unfold frAdd; rw [if_pos (.inr k)])
  have hx : x.2 ≠ 0 := fun k => hA (by unfold frMul; rw [if_pos (.inl k)])
  have hy : y.2 ≠ 0 := fun k => hB (by unfold frMul; rw [if_pos (.inl k)])
  have e : frAdd (frMul x x) (frMul y y) = frMk ((frMul x x).1 * ((frMul y y).2 : Int) + (frMul y y).1 * ((frMul x x).2 : Int)) ((frMul x x).2 * (frMul y y).2) := by
    conv => lhs; unfold frAdd
    rw [if_neg (fun k => k.elim hA hB)]
  rw [e] at h1 h2
  have h3 := frMk_num0 h1 h2
  have ex : frMul x x = frMk (x.1 * x.1) (x.2 * x.2) := by unfold frMul; rw [if_neg (fun k => k.elim hx hx)]
  have ey : frMul y y = frMk (y.1 * y.1) (y.2 * y.2) := by unfold frMul; rw [if_neg (fun k => k.elim hy hy)]
  have sx : 0 ≤ (frMul x x).1 := by rw [ex]; exact frMk_nn (sq_nn _)
  have sy : 0 ≤ (frMul y y).1 := by rw [ey]; exact frMk_nn (sq_nn _)
  have p1 : 0 ≤ (frMul x x).1 * ((frMul y y).2 : Int) := Int.mul_nonneg sx (by omega)
  have p2 : 0 ≤ (frMul y y).1 * ((frMul x x).2 : Int) := Int.mul_nonneg sy (by omega)
  have z1 : (frMul x x).1 = 0 := by
    rcases Int.mul_eq_zero.1 (show (frMul x x).1 * ((frMul y y).2 : Int) = 0 by omega) with h | h
    · exact h
    · omega
  have z2 : (frMul y y).1 = 0 := by
    rcases Int.mul_eq_zero.1 (show (frMul y y).1 * ((frMul x x).2 : Int) = 0 by omega) with h | h
    · exact h
    · omega
  refine ⟨⟨hx, ?_⟩, ⟨hy, ?_⟩⟩
  · rw [ex] at z1 hA
    rcases Int.mul_eq_zero.1 (frMk_num0 hA z1) with h | h <;> exact h
  · rw [ey] at z2 hB
    rcases Int.mul_eq_zero.1 (frMk_num0 hB z2) with h | h <;> exact h
theorem frSub_zero {x y : QR} (hx : ratOkB x = true) (hy : ratOkB y = true) (h1 : (frSub (frOf x) (frOf y)).2 ≠ 0) (h2 : (frSub (frOf x) (frOf y)).1 = 0) : x = y := by
  have a := fr_nz hx
  have b := fr_nz hy
  unfold frSub frAdd frNeg at h1 h2
  dsimp only at h1 h2
  rw [if_neg (fun k => k.elim a b)] at h1 h2
  have h3 := frMk_num0 h1 h2
  rw [Int.neg_mul] at h3
  have h4 := good_eq ((frOf_vd x).good a) ((frOf_vd y).good b) (by omega)
  rw [← enc_frOf hx, ← enc_frOf hy, h4]
theorem encR_zero_of : frOf (encR (0, 0)) = (0, 0) := frOf_enc (.inl rfl)
theorem segF_diff {p a b : QP} (ha : pointB a = true) (hb : pointB b = true) (h : a ≠ b) : segF p a b = sqF p (encR (segX p a b), encR (segY p a b)) := by
  obtain ⟨ha1, ha2⟩ := pt_parts ha
  obtain ⟨hb1, hb2⟩ := pt_parts hb
  unfold segF
  by_cases hs : frSign (sqF a b) = 0
  · rw [if_pos hs]
    by_cases hz : (sqF a b).2 = 0
    · have hv : sqF a b = (0, 0) := Vd.of_bad frAdd_vd hz
      have ht : segT p a b = (0, 0) := by
        unfold segT
        rw [hv, frDiv_r rfl]
        unfold maxF
        rw [if_pos (.inl rfl)]
        unfold minF
        rw [if_pos (.inl rfl)]
      unfold segX segY
      rw [hv, ht, frMul_l rfl, frMul_l rfl, frMul_l rfl, frAdd_l rfl, frAdd_r rfl, frAdd_r rfl]
      unfold sqF
      dsimp only
      rw [encR_zero_of, frSub_l rfl, frMul_l rfl, frAdd_l rfl]
    · exfalso
      have h1 : (sqF a b).1 = 0 := by
        unfold frSign at hs
        rw [if_neg hz] at hs
        exact cmpI_zero.1 hs
      obtain ⟨⟨k1, k2⟩, ⟨k3, k4⟩⟩ := sq_zero hz h1
      exact h (Prod.ext (frSub_zero hb1 ha1 k1 k2).symm (frSub_zero hb2 ha2 k3 k4).symm)
  · rw [if_neg hs]
theorem segF_bad {p a b : QP} (h : [p, a, b].all pointB = false) : segF p a b = (0, 0) := by
  by_cases hab : [a, b].all pointB = false
  · unfold segF
    rw [sqF_bad hab, if_pos (by unfold frSign; rw [if_pos rfl]), frMul_l rfl, frAdd_l rfl]
  · have hp : pointB p = false := by
      simp only [List.all_cons, List.all_nil, Bool.and_true] at h hab
      cases hq : pointB p
      · rfl
      · rw [hq, Bool.true_and] at h
        exact absurd h hab
    have h1 : ∀ x, sqF p x = (0, 0) := fun x => sqF_bad (by simp [hp])
    unfold segF
    rw [h1, h1]
    split
    · exact frAdd_r rfl
    · rfl
theorem innF_vd {a b c : QP} : Vd (innF a b c) := frAdd_vd
theorem sqF_vd {p q : QP} : Vd (sqF p q) := frAdd_vd
theorem segF_vd {p a b : QP} : Vd (segF p a b) := by
  unfold segF
  split
  · exact frAdd_vd
  · exact frAdd_vd
end Go.Proofs.YteihkhniibncnaaGreat
