/- Where edges cross they have the same height: plain facts on fractions; it speaks of no program. -/
import Derived.Test.YtiapendgjapgmaaFrk
import Derived.Test.YtiapendgjapgmaaCrs
import Derived.Test.YtiapendgjapgmaaLvl
import Derived.Test.YtiapendgjapgmaaHgt
import Derived.Test.YtiapendgjapgmaaSpn
namespace Go.Proofs.Ytiapendgjapgmaa
open Go.RowKit
/-- At most 10^k. -/
def Bd (k : Nat) (x : Int) : Prop := x.natAbs ≤ 10 ^ k
theorem Bd.mul {a b : Nat} {x y : Int} (h : Bd a x) (k : Bd b y) : Bd (a + b) (x * y) := by
  unfold Bd at *
  rw [Int.natAbs_mul, Nat.pow_add]
  exact Nat.mul_le_mul h k
theorem Bd.add {a : Nat} {x y : Int} (h : Bd a x) (k : Bd a y) : Bd (a + 1) (x + y) := by
  unfold Bd at *
  rw [Nat.pow_succ]
  omega
theorem Bd.sub {a : Nat} {x y : Int} (h : Bd a x) (k : Bd a y) : Bd (a + 1) (x - y) := by
  unfold Bd at *
  rw [Nat.pow_succ]
  omega
theorem Bd.mono {a b : Nat} {x : Int} (h : Bd a x) (k : a ≤ b) : Bd b x := Nat.le_trans h (Nat.pow_le_pow_right (by decide) k)
theorem Bd.ok {a : Nat} {x : Int} (h : Bd a x) (k : a ≤ 200) : sm x.natAbs = true := by
  rw [sm_iff, limbs_len_le]
  have h1 := Bd.mono h k
  unfold Bd at h1
  have h2 : ((10 ^ 200 : Nat) : Int) < bp 24 := by decide +kernel
  exact Int.lt_of_le_of_lt (Int.ofNat_le.2 h1) h2
theorem Bd.okN {a n : Nat} (h : Bd a (n : Int)) (k : a ≤ 200) : sm n = true := h.ok k
theorem frQ_mk {x y : Int} (hy : 0 < y) : frQ x y = frMk x y.natAbs := by
  unfold frQ frL
  rw [if_neg (by omega)]
  congr 1
  unfold sgn
  by_cases h : x < 0
  · rw [decide_eq_true h, decide_eq_false (show ¬ y < 0 by omega)]
    simp; omega
  · rw [decide_eq_false h, decide_eq_false (show ¬ y < 0 by omega)]
    simp; omega
/-- A valid edge's numbers. -/
structure EdB (e : QE) : Prop where
  a1 : Bd 3 e.1.1
  a2 : Bd 3 e.1.2
  b1 : Bd 3 e.2.1.1
  b2 : Bd 3 e.2.1.2
  lt : e.1.1 < e.2.1.1
theorem edB {e : QE} (h : edgeOk e = true) : EdB e := by
  obtain ⟨h1, h2, h3, h4, h5⟩ := edge_bd h
  exact ⟨by unfold Bd; omega, by unfold Bd; omega, by unfold Bd; omega, by unfold Bd; omega, h5⟩
def dxN (e : QE) : Nat := (e.2.1.1 - e.1.1).natAbs
def dyI (e : QE) : Int := e.2.1.2 - e.1.2
theorem EdB.dx {e : QE} (h : EdB e) : ((dxN e : Nat) : Int) = e.2.1.1 - e.1.1 ∧ dxN e ≠ 0 := by
  have := h.lt
  unfold dxN
  omega
theorem EdB.bdx {e : QE} (h : EdB e) : Bd 4 (dxN e : Int) := by
  rw [h.dx.1]
  exact h.b1.sub h.a1
theorem EdB.bdy {e : QE} (h : EdB e) : Bd 4 (dyI e) := h.b2.sub h.a2
theorem slp_mk {e : QE} (h : EdB e) : slpF e = frMk (dyI e) (dxN e) := frQ_mk (by have := h.lt; omega)
theorem bd1 : Bd 0 (1 : Int) := show (1 : Int).natAbs ≤ 10 ^ 0 by decide
theorem bd0 : Bd 0 (0 : Int) := show (0 : Int).natAbs ≤ 10 ^ 0 by decide
theorem int_mk {n : Int} {k : Nat} (h : Bd k n) (hk : k ≤ 200) : frInt n = frMk n 1 := (frK_int (h.ok hk)).symm
/-- The height at n/m. -/
theorem hgt_mk {e : QE} (h : EdB e) {n : Int} {m k : Nat} (hn : Bd k n) (hm : Bd k (m : Int)) (h0 : m ≠ 0) (hk : k ≤ 90) :
    frAdd (frInt e.1.2) (frMul (slpF e) (frSub (frMk n m) (frInt e.1.1))) = frMk (e.1.2 * (dxN e * m) + dyI e * (n - e.1.1 * m)) (dxN e * m) := by
  have hd := h.dx.2
  have e1 : Bd (k + 4) (n - e.1.1 * m) := ((hn.mono (by omega)).sub ((h.a1.mul hm).mono (by omega : 3 + k ≤ k + 3))).mono (by omega)
  rw [int_mk h.a1 (by omega), frK_sub (hn.ok (by omega)) (hm.okN (by omega)) (h.a1.ok (by omega)) (bd1.okN (n := 1) (by omega)) h0 (by decide)]
  rw [show (n * ((1 : Nat) : Int) - e.1.1 * (m : Int)) = n - e.1.1 * m by grind, Nat.mul_one]
  rw [slp_mk h, frK_mul (h.bdy.ok (by omega)) (h.bdx.okN (by omega)) (e1.ok (by omega)) (hm.okN (by omega)) hd h0]
  have e2 : Bd (k + 8) (dyI e * (n - e.1.1 * m)) := (h.bdy.mul e1).mono (by omega)
  have e3 : Bd (k + 8) ((dxN e * m : Nat) : Int) := by rw [Int.natCast_mul]; exact (h.bdx.mul hm).mono (by omega)
  rw [int_mk h.a2 (by omega), frK_add (h.a2.ok (by omega)) (bd1.okN (n := 1) (by omega)) (e2.ok (by omega)) (e3.okN (by omega)) (by decide) (Nat.mul_ne_zero hd h0)]
  refine frK_eq (by rw [Nat.one_mul]; exact Nat.mul_ne_zero hd h0) (Nat.mul_ne_zero hd h0) ?_
  simp only [Int.natCast_mul]
  grind
def hN (e : QE) : Int := e.1.2 * dxN e - dyI e * e.1.1
theorem hgt0_mk {e : QE} (h : EdB e) : hgt0 e = frMk (hN e) (dxN e) := by
  unfold hgt0
  have e0 := bd0
  rw [frOf_enc (show Vd (frInt 0) by rw [int_mk e0 (by decide)]; exact frMk_vd _ (by decide)), int_mk e0 (by decide), hgt_mk h (k := 1) (e0.mono (by decide)) (bd1.mono (by decide)) (by decide) (by decide)]
  refine frK_eq (by simp; exact h.dx.2) h.dx.2 ?_
  unfold hN
  simp only [Int.natCast_mul]
  grind
theorem bd_hN {e : QE} (h : EdB e) : Bd 8 (hN e) := ((h.a2.mul h.bdx).sub ((h.bdy.mul h.a1).mono (by omega : 4 + 3 ≤ 3 + 4))).mono (by decide)
def crN (e f : QE) : Int := hN f * dxN e - hN e * dxN f
def crD (e f : QE) : Int := dyI e * dxN f - dyI f * dxN e
theorem bd_crN {e f : QE} (h : EdB e) (k : EdB f) : Bd 13 (crN e f) := (((bd_hN k).mul h.bdx).sub ((bd_hN h).mul k.bdx)).mono (by decide)
theorem bd_crD {e f : QE} (h : EdB e) (k : EdB f) : Bd 9 (crD e f) := ((h.bdy.mul k.bdx).sub (k.bdy.mul h.bdx)).mono (by decide)
theorem bd_abs {k : Nat} {x : Int} (h : Bd k x) : Bd k (x.natAbs : Int) := h
theorem bd_sign {k : Nat} {x y : Int} (h : Bd k x) : Bd k (x * y.sign) := by
  unfold Bd at *
  rw [Int.natAbs_mul]
  have : y.sign.natAbs ≤ 1 := by
    rcases Int.lt_trichotomy y 0 with h | h | h
    · rw [Int.sign_eq_neg_one_of_neg h]; decide
    · subst h; decide
    · rw [Int.sign_eq_one_of_pos h]; decide
  exact Nat.le_trans (Nat.mul_le_mul_left _ this) (by omega)
theorem crsX_zero {e f : QE} (h : EdB e) (k : EdB f) (h0 : crD e f = 0) : crsX e f = (0, 0) := by
  unfold crsX
  rw [slp_mk h, slp_mk k, frK_sub (h.bdy.ok (by decide)) (h.bdx.okN (by decide)) (k.bdy.ok (by decide)) (k.bdx.okN (by decide)) h.dx.2 k.dx.2]
  have : dyI e * (dxN f : Int) - dyI f * (dxN e : Int) = 0 := h0
  rw [this]
  unfold frDiv
  rw [if_pos]
  right; right
  unfold frMk sgn
  simp
  split <;> simp
theorem crsX_mk {e f : QE} (h : EdB e) (k : EdB f) (h0 : crD e f ≠ 0) : crsX e f = frMk (crN e f * (crD e f).sign) (crD e f).natAbs := by
  unfold crsX
  rw [slp_mk h, slp_mk k, frK_sub (h.bdy.ok (by decide)) (h.bdx.okN (by decide)) (k.bdy.ok (by decide)) (k.bdx.okN (by decide)) h.dx.2 k.dx.2]
  rw [hgt0_mk h, hgt0_mk k, frK_sub ((bd_hN k).ok (by decide)) (k.bdx.okN (by decide)) ((bd_hN h).ok (by decide)) (h.bdx.okN (by decide)) k.dx.2 h.dx.2]
  have eN : hN f * (dxN e : Int) - hN e * (dxN f : Int) = crN e f := rfl
  have eD : dyI e * (dxN f : Int) - dyI f * (dxN e : Int) = crD e f := rfl
  rw [eN, eD]
  have b1 : Bd 8 ((dxN f * dxN e : Nat) : Int) := by rw [Int.natCast_mul]; exact k.bdx.mul h.bdx
  have b2 : Bd 8 ((dxN e * dxN f : Nat) : Int) := by rw [Int.natCast_mul]; exact h.bdx.mul k.bdx
  rw [frK_div ((bd_crN h k).ok (by decide)) (b1.okN (by decide)) ((bd_crD h k).ok (by decide)) (b2.okN (by decide)) (Nat.mul_ne_zero k.dx.2 h.dx.2) (Nat.mul_ne_zero h.dx.2 k.dx.2) h0]
  refine frK_eq (Nat.mul_ne_zero (Nat.mul_ne_zero k.dx.2 h.dx.2) (by omega)) (by omega) ?_
  simp only [Int.natCast_mul]
  grind
theorem crsX_comm {e f : QE} (h : EdB e) (k : EdB f) : crsX e f = crsX f e := by
  have eN : crN f e = -crN e f := by unfold crN; grind
  have eD : crD f e = -crD e f := by unfold crD; grind
  by_cases h0 : crD e f = 0
  · rw [crsX_zero h k h0, crsX_zero k h (by rw [eD, h0]; rfl)]
  · rw [crsX_mk h k h0, crsX_mk k h (by rw [eD]; omega), eN, eD, Int.natAbs_neg, Int.sign_neg, Int.neg_mul_neg]
theorem crsX_vd (e f : QE) : Vd (crsX e f) := frDiv_vd
theorem crsB_comm {e f : QE} (h : edgeOk e = true) (k : edgeOk f = true) : crsB e f = crsB f e := by
  unfold crsB
  rw [crsX_comm (edB h) (edB k), h, k, Bool.and_comm (spansB e.1.1 _ _ _)]
theorem crsF_comm {e f : QE} (h : edgeOk e = true) (k : edgeOk f = true) : crsF e f = crsF f e := by
  unfold crsF
  rw [crsB_comm h k, crsX_comm (edB h) (edB k)]
/-- The same height where they cross. -/
theorem same_height {e f : QE} (h : edgeOk e = true) (k : edgeOk f = true) (hc : crsB e f = true) : hgtF e (encR (crsF e f)) = hgtF f (encR (crsF e f)) := by
  have he := edB h
  have hf := edB k
  rw [crsF_yes hc]
  have h0 : crD e f ≠ 0 := by
    intro h0
    unfold crsB at hc
    rw [crsX_zero he hf h0, ratOk_zero] at hc
    simp at hc
  unfold hgtF
  rw [if_pos h, if_pos k, frOf_enc (crsX_vd e f)]
  have hx := crsX_mk he hf h0
  rw [hx]
  have bn : Bd 13 (crN e f * (crD e f).sign) := bd_sign (bd_crN he hf)
  have bm : Bd 13 (((crD e f).natAbs : Nat) : Int) := (bd_abs (bd_crD he hf)).mono (by decide)
  have hm0 : (crD e f).natAbs ≠ 0 := by omega
  have q1 := hgt_mk he bn bm hm0 (by decide)
  have q2 := hgt_mk hf bn bm hm0 (by decide)
  unfold slpF at q1 q2
  rw [q1, q2]
  refine frK_eq (Nat.mul_ne_zero he.dx.2 hm0) (Nat.mul_ne_zero hf.dx.2 hm0) ?_
  obtain ⟨s, hs⟩ : ∃ s, s = (crD e f).sign := ⟨_, rfl⟩
  obtain ⟨m, hm⟩ : ∃ m : Int, m = ((crD e f).natAbs : Int) := ⟨_, rfl⟩
  have hsm : m = s * crD e f := by
    rw [hm, hs]
    rcases Int.lt_or_gt_of_ne h0 with h1 | h1
    · rw [Int.sign_eq_neg_one_of_neg h1]; omega
    · rw [Int.sign_eq_one_of_pos h1]; omega
  simp only [Int.natCast_mul]
  rw [← hs, ← hm, hsm]
  clear hm hs hsm q1 q2 hx bn bm
  unfold crN crD hN
  grind
theorem good_int {n : Int} {k : Nat} (h : Bd k n) (hk : k ≤ 200) : Good (frInt n) := by
  have h1 := frMk_vd n (d := 1) (by decide)
  rw [← int_mk h hk] at h1
  exact h1.good (show (1 : Nat) ≠ 0 by decide)
theorem height_a {e : QE} (h : edgeOk e = true) : hgtF e (encR (frInt e.1.1)) = frInt e.1.2 := by
  have he := edB h
  unfold hgtF
  rw [if_pos h, frOf_enc (good_int he.a1 (by decide)).vd]
  have q := hgt_mk he (n := e.1.1) (m := 1) (k := 3) he.a1 (bd1.mono (by decide)) (by decide) (by decide)
  rw [← int_mk he.a1 (by decide)] at q
  unfold slpF at q
  rw [q, int_mk he.a2 (by decide)]
  refine frK_eq (by simp; exact he.dx.2) (by decide) ?_
  simp only [Int.natCast_mul]
  grind
theorem rCmp_int {a b : Int} {k : Nat} (ha : Bd k a) (hb : Bd k b) (hk : k ≤ 200) : rCmp (encR (frInt a)) (encR (frInt b)) = cmpI a b := by
  unfold rCmp
  rw [frOf_enc (good_int ha hk).vd, frOf_enc (good_int hb hk).vd]
  unfold frCmp frInt
  simp
theorem spans_ab {e : QE} (h : edgeOk e = true) : spanB e (encR (frInt e.1.1)) (encR (frInt e.2.1.1)) = true := by
  have he := edB h
  unfold spanB spansB
  rw [h, ratOk_iff.2 ⟨_, good_int he.a1 (by decide), rfl⟩, ratOk_iff.2 ⟨_, good_int he.b1 (by decide), rfl⟩, rCmp_int he.a1 he.a1 (by decide), rCmp_int he.b1 he.b1 (by decide), cmpI_eq rfl, cmpI_eq rfl]
  rfl
theorem frQ_zero {y : Int} (hy : y ≠ 0) : frQ 0 y = frMk 0 y.natAbs := by
  unfold frQ frL
  rw [if_neg (by omega)]
  congr 1
  unfold sgn
  split <;> simp
theorem lvlX_a {e : QE} (h : edgeOk e = true) (hy : e.1.2 ≠ e.2.1.2) : lvlX e e.1.2 = frInt e.1.1 := by
  have he := edB h
  unfold lvlX
  rw [show (e.1.2 - e.1.2) * (e.2.1.1 - e.1.1) = 0 by grind, frQ_zero (by omega), int_mk he.a1 (by decide)]
  have b0 := bd0
  have bd := bd_abs he.bdy
  unfold dyI at bd
  rw [frK_add (he.a1.ok (by decide)) (bd1.okN (n := 1) (by decide)) (b0.ok (by decide)) (bd.okN (by decide)) (by decide) (by omega)]
  refine frK_eq (by simp; omega) (by decide) ?_
  simp only [Int.natCast_mul]
  grind
theorem lvl_ok {e : QE} (h : edgeOk e = true) : lvlB e e.1.2 = decide (e.1.2 ≠ e.2.1.2) := by
  have he := edB h
  unfold lvlB
  rw [h]
  by_cases hy : e.1.2 = e.2.1.2
  · rw [decide_eq_false (show ¬ e.1.2 ≠ e.2.1.2 from fun h => h hy)]
    simp
  · rw [lvlX_a h hy, ratOk_iff.2 ⟨_, good_int he.a1 (by decide), rfl⟩, decide_eq_true (show e.1.2 ≠ e.2.1.2 from hy)]
    have h5 : inR e.1.2 (-1000) 1000 = true := inR_iff.2 (edge_bd h).2.1
    rw [h5]
    unfold spansB
    rw [rCmp_int he.a1 he.a1 (by decide), rCmp_int he.b1 he.a1 (by decide), cmpI_eq rfl, cmpI_gt he.lt]
    rfl
theorem lvl_val {e : QE} (h : edgeOk e = true) (hb : lvlB e e.1.2 = true) : lvlF e e.1.2 = frInt e.1.1 := by
  rw [lvlF_yes hb]
  refine lvlX_a h ?_
  rw [lvl_ok h] at hb
  exact of_decide_eq_true hb
end Go.Proofs.Ytiapendgjapgmaa
