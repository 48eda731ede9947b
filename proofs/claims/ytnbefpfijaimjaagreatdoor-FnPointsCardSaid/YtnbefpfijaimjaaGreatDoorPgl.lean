/- Points of small terms: the laws that FnPoints asks. Plain facts; it speaks of no program. -/
import Derived.Test.YtnbefpfijaimjaaGreatDoorFrk
import Derived.Test.YtnbefpfijaimjaaGreatDoorSqd
import Derived.Test.YtnbefpfijaimjaaGreatDoorSid
import Derived.Test.YtnbefpfijaimjaaGreatDoorPor
import Derived.Test.YtnbefpfijaimjaaGreatDoorGStk
namespace Go.Proofs.YtnbefpfijaimjaaGreatDoor
open Go.RowKit
/-- At most 10^k. -/
def Bd (k : Nat) (x : Int) : Prop := x.natAbs ≤ 10 ^ k
theorem Bd.mul {a b : Nat} {x y : Int} (h : Bd a x) (k : Bd b y) : Bd (a + b) (x * y) := by
  unfold Bd at *
  rw [Int.natAbs_mul, Nat.pow_add]
  exact Nat.mul_le_mul h k
theorem Bd.add {a : Nat} {x y : Int} (h : Bd a x) (k : Bd a y) : Bd (a + 1) (x + y) := by
  unfold Bd at *
  rw [Nat.pow_succ]
  omega
theorem Bd.sub {a : Nat} {x y : Int} (h : Bd a x) (k : Bd a y) : Bd (a + 1) (x - y) := by
  unfold Bd at *
  rw [Nat.pow_succ]
  omega
theorem Bd.mono {a b : Nat} {x : Int} (h : Bd a x) (k : a ≤ b) : Bd b x := Nat.le_trans h (Nat.pow_le_pow_right (by decide) k)
theorem Bd.ok {a : Nat} {x : Int} (h : Bd a x) (k : a ≤ 200) : sm x.natAbs = true := by
  rw [sm_iff, limbs_len_le]
  have h1 := Bd.mono h k
  unfold Bd at h1
  have h2 : ((10 ^ 200 : Nat) : Int) < bp 24 := by decide +kernel
  exact Int.lt_of_le_of_lt (Int.ofNat_le.2 h1) h2
theorem Bd.okN {a n : Nat} (h : Bd a (n : Int)) (k : a ≤ 200) : sm n = true := h.ok k
theorem Bd.mulN {a b x y : Nat} (h : Bd a (x : Int)) (k : Bd b (y : Int)) : Bd (a + b) ((x * y : Nat) : Int) := by
  rw [Int.natCast_mul]
  exact h.mul k
theorem bd1 : Bd 0 (1 : Int) := show (1 : Int).natAbs ≤ 10 ^ 0 by decide
theorem int_mk {n : Int} {k : Nat} (h : Bd k n) (hk : k ≤ 200) : frInt n = frMk n 1 := (frK_int (h.ok hk)).symm
theorem frB_add {k : Nat} {a c : Int} {b d : Nat} (hk : k ≤ 200) (ha : Bd k a) (hb : Bd k (b : Int)) (hc : Bd k c) (hd : Bd k (d : Int)) (b0 : b ≠ 0) (d0 : d ≠ 0) : frAdd (frMk a b) (frMk c d) = frMk (a * d + c * b) (b * d) := frK_add (ha.ok hk) (hb.okN hk) (hc.ok hk) (hd.okN hk) b0 d0
theorem frB_sub {k : Nat} {a c : Int} {b d : Nat} (hk : k ≤ 200) (ha : Bd k a) (hb : Bd k (b : Int)) (hc : Bd k c) (hd : Bd k (d : Int)) (b0 : b ≠ 0) (d0 : d ≠ 0) : frSub (frMk a b) (frMk c d) = frMk (a * d - c * b) (b * d) := frK_sub (ha.ok hk) (hb.okN hk) (hc.ok hk) (hd.okN hk) b0 d0
theorem frB_mul {k : Nat} {a c : Int} {b d : Nat} (hk : k ≤ 200) (ha : Bd k a) (hb : Bd k (b : Int)) (hc : Bd k c) (hd : Bd k (d : Int)) (b0 : b ≠ 0) (d0 : d ≠ 0) : frMul (frMk a b) (frMk c d) = frMk (a * c) (b * d) := frK_mul (ha.ok hk) (hb.okN hk) (hc.ok hk) (hd.okN hk) b0 d0
/-- The sign of a fraction of small terms. -/
theorem frB_sign {k : Nat} {n : Int} {d : Nat} (hk : k ≤ 200) (hn : Bd k n) (hd : Bd k (d : Int)) (d0 : d ≠ 0) : frSign (frMk n d) = cmpI n 0 := by
  obtain ⟨g, n', d', hg, e1, e2, h3, e4⟩ := frK_split (hn.ok hk) (hd.okN hk) d0
  rw [e4]
  unfold frSign
  rw [if_neg h3]
  show cmpI n' 0 = cmpI n 0
  unfold cmpI
  rw [e1]
  have hg' : (0 : Int) < (g : Int) := by omega
  rcases Int.lt_trichotomy n' 0 with h | h | h
  · rw [if_pos h, if_pos (Int.mul_neg_of_pos_of_neg hg' h)]
  · subst h; simp
  · rw [if_neg (by omega), if_pos h, if_neg (by have := Int.mul_pos hg' h; omega), if_pos (Int.mul_pos hg' h)]
theorem cmpS_pos {k x : Int} (hk : 0 < k) : cmpI (k * x) 0 = cmpI x 0 := by
  unfold cmpI
  rcases Int.lt_trichotomy x 0 with h | h | h
  · rw [if_pos h, if_pos (Int.mul_neg_of_pos_of_neg hk h)]
  · subst h; simp
  · rw [if_neg (show ¬ x < 0 by omega), if_pos h, if_neg (by have := Int.mul_pos hk h; omega), if_pos (Int.mul_pos hk h)]
theorem cmpS_neg {x : Int} : cmpI (-x) 0 = -cmpI x 0 := by
  unfold cmpI
  rcases Int.lt_trichotomy x 0 with h | h | h
  · rw [if_pos h, if_neg (by omega), if_pos (by omega)]; rfl
  · subst h; simp
  · rw [if_neg (show ¬ x < 0 by omega), if_pos h, if_pos (by omega)]
/-- A point that is drawn: a/b, an integer. -/
structure Spt (a : Int) (b : Nat) (c : Int) : Prop where
  ha : Bd 2 a
  hb : Bd 2 (b : Int)
  hc : Bd 2 c
  b0 : b ≠ 0
def ptF (a : Int) (b : Nat) (c : Int) : QP := (encR (frMk a b), encR (frMk c 1))
theorem Spt.of1 {a : Int} {b : Nat} {c : Int} (h : Spt a b c) : frOf (ptF a b c).1 = frMk a b := frOf_enc (frMk_vd _ h.b0)
theorem Spt.of2 {a : Int} {b : Nat} {c : Int} : frOf (ptF a b c).2 = frMk c 1 := frOf_enc (frMk_vd _ (by decide))
theorem bdN1 {k : Nat} : Bd k ((1 : Nat) : Int) := bd1.mono (Nat.zero_le _)
theorem subX {a c : Int} {b d : Nat} (ha : Bd 2 a) (hb : Bd 2 (b : Int)) (hc : Bd 2 c) (hd : Bd 2 (d : Int)) (b0 : b ≠ 0) (d0 : d ≠ 0) : frSub (frMk a b) (frMk c d) = frMk (a * d - c * b) (b * d) := frB_sub (k := 2) (by decide) ha hb hc hd b0 d0
theorem subY {a c : Int} (ha : Bd 2 a) (hc : Bd 2 c) : frSub (frMk a 1) (frMk c 1) = frMk (a - c) 1 := by
  rw [frB_sub (k := 2) (by decide) ha bdN1 hc bdN1 (by decide) (by decide)]
  congr 1
  simp
theorem bdX {a c : Int} {b d : Nat} (ha : Bd 2 a) (hb : Bd 2 (b : Int)) (hc : Bd 2 c) (hd : Bd 2 (d : Int)) : Bd 5 (a * d - c * b) := (ha.mul hd).sub (hc.mul hb)
/-- The number whose sign the side is. -/
def turnN (a1 : Int) (b1 : Nat) (c1 a2 : Int) (b2 : Nat) (c2 a3 : Int) (b3 : Nat) (c3 : Int) : Int := (a2 * b1 - a1 * b2) * (c3 - c1) * b3 - (c2 - c1) * (a3 * b1 - a1 * b3) * b2
theorem side_turn {a1 : Int} {b1 : Nat} {c1 a2 : Int} {b2 : Nat} {c2 a3 : Int} {b3 : Nat} {c3 : Int} (h1 : Spt a1 b1 c1) (h2 : Spt a2 b2 c2) (h3 : Spt a3 b3 c3) : sideF (ptF a1 b1 c1) (ptF a2 b2 c2) (ptF a3 b3 c3) = cmpI (turnN a1 b1 c1 a2 b2 c2 a3 b3 c3) 0 := by
  unfold sideF
  rw [h1.of1, h2.of1, h3.of1, Spt.of2, Spt.of2, Spt.of2, subX h2.ha h2.hb h1.ha h1.hb h2.b0 h1.b0, subX h3.ha h3.hb h1.ha h1.hb h3.b0 h1.b0, subY h3.hc h1.hc, subY h2.hc h1.hc]
  have A := bdX h2.ha h2.hb h1.ha h1.hb
  have B := bdX h3.ha h3.hb h1.ha h1.hb
  have C : Bd 5 (c3 - c1) := (h3.hc.sub h1.hc).mono (by decide)
  have D : Bd 5 (c2 - c1) := (h2.hc.sub h1.hc).mono (by decide)
  have E : Bd 5 ((b2 * b1 : Nat) : Int) := (h2.hb.mulN h1.hb).mono (by decide)
  have F : Bd 5 ((b3 * b1 : Nat) : Int) := (h3.hb.mulN h1.hb).mono (by decide)
  have e0 : b2 * b1 ≠ 0 := Nat.mul_ne_zero h2.b0 h1.b0
  have f0 : b3 * b1 ≠ 0 := Nat.mul_ne_zero h3.b0 h1.b0
  rw [frB_mul (k := 5) (by decide) A E C bdN1 e0 (by decide), frB_mul (k := 5) (by decide) D bdN1 B F (by decide) f0, Nat.mul_one, Nat.one_mul]
  have G : Bd 10 ((a2 * b1 - a1 * b2) * (c3 - c1)) := A.mul C
  have H : Bd 10 ((c2 - c1) * (a3 * b1 - a1 * b3)) := D.mul B
  rw [frB_sub (k := 10) (by decide) G (E.mono (by decide)) H (F.mono (by decide)) e0 f0]
  rw [frB_sign (k := 30) (by decide) (((G.mul F).sub (H.mul E)).mono (by decide)) ((E.mulN F).mono (by decide)) (Nat.mul_ne_zero e0 f0)]
  have hb : (0 : Int) < (b1 : Int) := by have := h1.b0; omega
  rw [← cmpS_pos hb (x := turnN a1 b1 c1 a2 b2 c2 a3 b3 c3)]
  congr 1
  unfold turnN
  rw [Int.natCast_mul, Int.natCast_mul]
  grind
theorem turn_anti (a1 : Int) (b1 : Nat) (c1 a2 : Int) (b2 : Nat) (c2 a3 : Int) (b3 : Nat) (c3 : Int) : turnN a2 b2 c2 a1 b1 c1 a3 b3 c3 = -turnN a1 b1 c1 a2 b2 c2 a3 b3 c3 := by
  unfold turnN
  grind
theorem side_anti {a1 : Int} {b1 : Nat} {c1 a2 : Int} {b2 : Nat} {c2 a3 : Int} {b3 : Nat} {c3 : Int} (h1 : Spt a1 b1 c1) (h2 : Spt a2 b2 c2) (h3 : Spt a3 b3 c3) : sideF (ptF a2 b2 c2) (ptF a1 b1 c1) (ptF a3 b3 c3) = -sideF (ptF a1 b1 c1) (ptF a2 b2 c2) (ptF a3 b3 c3) := by
  rw [side_turn h1 h2 h3, side_turn h2 h1 h3, turn_anti, cmpS_neg]
theorem frQs_mk {x y : Int} (hy : 0 < y) : frQ x y = frMk x y.natAbs := by
  unfold frQ frL
  rw [if_neg (by omega)]
  congr 1
  unfold sgn
  by_cases h : x < 0
  · rw [decide_eq_true h, decide_eq_false (show ¬ y < 0 by omega)]
    simp; omega
  · rw [decide_eq_false h, decide_eq_false (show ¬ y < 0 by omega)]
    simp; omega
theorem half_mk {k : Nat} {n : Int} {d : Nat} (hk : k ≤ 190) (hn : Bd k n) (hd : Bd k (d : Int)) (d0 : d ≠ 0) : frHalf (frMk n d) = frMk n (d * 2) := by
  unfold frHalf
  rw [frQs_mk (by decide : (0 : Int) < 2)]
  have h2 : Bd (k + 1) ((2 : Nat) : Int) := by unfold Bd; rw [Nat.pow_succ]; have h : 0 < 10 ^ k := Nat.pow_pos (by decide); omega
  show frMul (frMk n d) (frMk 1 2) = _
  rw [frB_mul (k := k + 1) (by omega) (hn.mono (by omega)) (hd.mono (by omega)) (bd1.mono (by omega)) h2 d0 (by decide), Int.mul_one]
/-- The middle. -/
noncomputable def midP (p q : QP) : QP := (encR (frHalf (frAdd (frOf p.1) (frOf q.1))), encR (frHalf (frAdd (frOf p.2) (frOf q.2))))
def mdN (a1 : Int) (b1 : Nat) (a2 : Int) (b2 : Nat) : Int := a1 * b2 + a2 * b1
theorem bd_mdN {a1 a2 : Int} {b1 b2 : Nat} (h1 : Bd 2 a1) (k1 : Bd 2 (b1 : Int)) (h2 : Bd 2 a2) (k2 : Bd 2 (b2 : Int)) : Bd 5 (mdN a1 b1 a2 b2) := (h1.mul k2).add (h2.mul k1)
theorem bd_two {k : Nat} (h : 1 ≤ k) : Bd k ((2 : Nat) : Int) := (show Bd 1 ((2 : Nat) : Int) by unfold Bd; decide).mono h
theorem mid_pt {a1 : Int} {b1 : Nat} {c1 a2 : Int} {b2 : Nat} {c2 : Int} (h1 : Spt a1 b1 c1) (h2 : Spt a2 b2 c2) : midP (ptF a1 b1 c1) (ptF a2 b2 c2) = (encR (frMk (mdN a1 b1 a2 b2) (b1 * b2 * 2)), encR (frMk (c1 + c2) 2)) := by
  unfold midP
  have E : Bd 5 ((b1 * b2 : Nat) : Int) := (h1.hb.mulN h2.hb).mono (by decide)
  have C : Bd 5 (c1 + c2) := (h1.hc.add h2.hc).mono (by decide)
  rw [h1.of1, h2.of1, Spt.of2, Spt.of2, frB_add (k := 2) (by decide) h1.ha h1.hb h2.ha h2.hb h1.b0 h2.b0, frB_add (k := 2) (by decide) h1.hc bdN1 h2.hc bdN1 (by decide) (by decide)]
  have e : c1 * ((1 : Nat) : Int) + c2 * ((1 : Nat) : Int) = c1 + c2 := by simp
  rw [e, show a1 * (b2 : Int) + a2 * (b1 : Int) = mdN a1 b1 a2 b2 from rfl, half_mk (k := 5) (by decide) (bd_mdN h1.ha h1.hb h2.ha h2.hb) E (Nat.mul_ne_zero h1.b0 h2.b0), half_mk (k := 5) (by decide) C bdN1 (by decide)]
theorem mid_comm {p q : QP} : midP p q = midP q p := by
  have h : ∀ r s : Fr, frAdd r s = frAdd s r := by
    intro r s
    unfold frAdd
    by_cases h : r.2 = 0 ∨ s.2 = 0
    · rw [if_pos h, if_pos h.symm]
    · rw [if_neg h, if_neg (fun k => h k.symm), Int.add_comm, Nat.mul_comm]
  unfold midP
  rw [h (frOf p.1), h (frOf p.2)]
theorem mid_d1 {a1 : Int} {b1 : Nat} {a2 : Int} {b2 : Nat} (h1 : Bd 2 a1) (k1 : Bd 2 (b1 : Int)) (h2 : Bd 2 a2) (k2 : Bd 2 (b2 : Int)) (b10 : b1 ≠ 0) (b20 : b2 ≠ 0) : frSub (frMk (mdN a1 b1 a2 b2) (b1 * b2 * 2)) (frMk a1 b1) = frMk (a2 * b1 - a1 * b2) (b1 * b2 * 2) := by
  have E : Bd 6 ((b1 * b2 * 2 : Nat) : Int) := ((k1.mulN k2).mulN (bd_two (by decide))).mono (by decide : 2 + 2 + 1 ≤ 6)
  have e0 : b1 * b2 * 2 ≠ 0 := Nat.mul_ne_zero (Nat.mul_ne_zero b10 b20) (by decide)
  rw [frB_sub (k := 6) (by decide) ((bd_mdN h1 k1 h2 k2).mono (by decide)) E (h1.mono (by decide)) (k1.mono (by decide)) e0 b10]
  refine frK_eq (Nat.mul_ne_zero e0 b10) e0 ?_
  unfold mdN
  simp only [Int.natCast_mul]
  grind
theorem mid_d2 {a1 : Int} {b1 : Nat} {a2 : Int} {b2 : Nat} (h1 : Bd 2 a1) (k1 : Bd 2 (b1 : Int)) (h2 : Bd 2 a2) (k2 : Bd 2 (b2 : Int)) (b10 : b1 ≠ 0) (b20 : b2 ≠ 0) : frSub (frMk a2 b2) (frMk (mdN a1 b1 a2 b2) (b1 * b2 * 2)) = frMk (a2 * b1 - a1 * b2) (b1 * b2 * 2) := by
  have E : Bd 6 ((b1 * b2 * 2 : Nat) : Int) := ((k1.mulN k2).mulN (bd_two (by decide))).mono (by decide : 2 + 2 + 1 ≤ 6)
  have e0 : b1 * b2 * 2 ≠ 0 := Nat.mul_ne_zero (Nat.mul_ne_zero b10 b20) (by decide)
  rw [frB_sub (k := 6) (by decide) (h2.mono (by decide)) (k2.mono (by decide)) ((bd_mdN h1 k1 h2 k2).mono (by decide)) E b20 e0]
  refine frK_eq (Nat.mul_ne_zero b20 e0) e0 ?_
  unfold mdN
  simp only [Int.natCast_mul]
  grind
theorem mid_y {c1 c2 : Int} : frMk (c1 + c2) 2 = frMk (mdN c1 1 c2 1) (1 * 1 * 2) := by
  unfold mdN
  congr 1
  simp
theorem side_mid {a1 : Int} {b1 : Nat} {c1 a2 : Int} {b2 : Nat} {c2 : Int} (h1 : Spt a1 b1 c1) (h2 : Spt a2 b2 c2) : sideF (ptF a1 b1 c1) (ptF a2 b2 c2) (midP (ptF a1 b1 c1) (ptF a2 b2 c2)) = 0 := by
  have e0 : b1 * b2 * 2 ≠ 0 := Nat.mul_ne_zero (Nat.mul_ne_zero h1.b0 h2.b0) (by decide)
  rw [mid_pt h1 h2]
  unfold sideF
  rw [h1.of1, h2.of1, Spt.of2, Spt.of2, frOf_enc (frMk_vd _ e0), frOf_enc (frMk_vd _ (by decide)), mid_d1 h1.ha h1.hb h2.ha h2.hb h1.b0 h2.b0, mid_y, mid_d1 h1.hc bdN1 h2.hc bdN1 (by decide) (by decide), subX h2.ha h2.hb h1.ha h1.hb h2.b0 h1.b0, subY h2.hc h1.hc]
  have A : Bd 6 (a2 * b1 - a1 * b2) := (bdX h2.ha h2.hb h1.ha h1.hb).mono (by decide)
  have C : Bd 6 (c2 - c1) := (h2.hc.sub h1.hc).mono (by decide)
  have C2 : Bd 6 (c2 * ((1 : Nat) : Int) - c1 * ((1 : Nat) : Int)) := by simpa using C
  have E : Bd 6 ((b1 * b2 * 2 : Nat) : Int) := ((h1.hb.mulN h2.hb).mulN (bd_two (by decide))).mono (by decide : 2 + 2 + 1 ≤ 6)
  have F : Bd 6 ((b2 * b1 : Nat) : Int) := (h2.hb.mulN h1.hb).mono (by decide)
  rw [frB_mul (k := 6) (by decide) A F C2 (bd_two (by decide)) (Nat.mul_ne_zero h2.b0 h1.b0) (by decide), frB_mul (k := 6) (by decide) C bdN1 A E (by decide) e0]
  have G : Bd 12 ((a2 * b1 - a1 * b2) * (c2 * ((1 : Nat) : Int) - c1 * ((1 : Nat) : Int))) := A.mul C2
  have H : Bd 12 ((c2 - c1) * (a2 * b1 - a1 * b2)) := C.mul A
  have I : Bd 12 ((b2 * b1 * (1 * 1 * 2) : Nat) : Int) := (F.mulN (bd_two (k := 1) (by decide))).mono (by decide : 6 + 1 ≤ 12)
  have J : Bd 12 ((1 * (b1 * b2 * 2) : Nat) : Int) := by rw [Nat.one_mul]; exact E.mono (by decide)
  have i0 : b2 * b1 * (1 * 1 * 2) ≠ 0 := Nat.mul_ne_zero (Nat.mul_ne_zero h2.b0 h1.b0) (by decide)
  have j0 : 1 * (b1 * b2 * 2) ≠ 0 := Nat.mul_ne_zero (by decide) e0
  rw [frB_sub (k := 12) (by decide) G I H J i0 j0, frB_sign (k := 30) (by decide) (((G.mul J).sub (H.mul I)).mono (by decide)) ((I.mulN J).mono (by decide)) (Nat.mul_ne_zero i0 j0)]
  have z : (a2 * b1 - a1 * b2) * (c2 * ((1 : Nat) : Int) - c1 * ((1 : Nat) : Int)) * ((1 * (b1 * b2 * 2) : Nat) : Int) - (c2 - c1) * (a2 * b1 - a1 * b2) * ((b2 * b1 * (1 * 1 * 2) : Nat) : Int) = 0 := by
    simp only [Int.natCast_mul]
    grind
  rw [z]
  rfl
theorem sq_mid {a1 : Int} {b1 : Nat} {c1 a2 : Int} {b2 : Nat} {c2 : Int} (h1 : Spt a1 b1 c1) (h2 : Spt a2 b2 c2) : sqF (ptF a1 b1 c1) (midP (ptF a1 b1 c1) (ptF a2 b2 c2)) = sqF (midP (ptF a1 b1 c1) (ptF a2 b2 c2)) (ptF a2 b2 c2) := by
  have e0 : b1 * b2 * 2 ≠ 0 := Nat.mul_ne_zero (Nat.mul_ne_zero h1.b0 h2.b0) (by decide)
  rw [mid_pt h1 h2]
  unfold sqF
  rw [h1.of1, h2.of1, Spt.of2, Spt.of2, frOf_enc (frMk_vd _ e0), frOf_enc (frMk_vd _ (by decide)), mid_d1 h1.ha h1.hb h2.ha h2.hb h1.b0 h2.b0, mid_y, mid_d1 h1.hc bdN1 h2.hc bdN1 (by decide) (by decide), mid_d2 h1.ha h1.hb h2.ha h2.hb h1.b0 h2.b0, mid_d2 h1.hc bdN1 h2.hc bdN1 (by decide) (by decide)]
/-- A point moved. -/
noncomputable def mvF (p : QP) (x y : Int) : QP := (encR (frAdd (frOf p.1) (frInt x)), encR (frAdd (frOf p.2) (frInt y)))
theorem add_int {k : Nat} {a x : Int} {b : Nat} (hk : k ≤ 190) (ha : Bd k a) (hb : Bd k (b : Int)) (hx : Bd k x) (b0 : b ≠ 0) : frAdd (frMk a b) (frInt x) = frMk (a + x * b) b := by
  rw [int_mk hx (by omega), frB_add (by omega) ha hb hx bdN1 b0 (by decide), Nat.mul_one]
  congr 1
  simp
theorem mv_pt {a : Int} {b : Nat} {c x y : Int} (h : Spt a b c) (hx : Bd 2 x) (hy : Bd 2 y) : mvF (ptF a b c) x y = ptF (a + x * b) b (c + y) := by
  unfold mvF
  rw [h.of1, Spt.of2, add_int (k := 2) (by decide) h.ha h.hb hx h.b0, add_int (k := 2) (by decide) h.hc bdN1 hy (by decide)]
  unfold ptF
  rw [show c + y * ((1 : Nat) : Int) = c + y by simp]
theorem mv_back {a : Int} {b : Nat} {c x y : Int} (h : Spt a b c) (hx : Bd 2 x) (hy : Bd 2 y) : mvF (mvF (ptF a b c) x y) (-x) (-y) = ptF a b c := by
  rw [mv_pt h hx hy]
  unfold mvF
  have hx' : Bd 6 (-x) := by have := hx.mono (show 2 ≤ 6 by decide); unfold Bd at *; omega
  have hy' : Bd 6 (-y) := by have := hy.mono (show 2 ≤ 6 by decide); unfold Bd at *; omega
  have h1 : Bd 6 (a + x * b) := ((h.ha.mono (by decide : 2 ≤ 4)).add (hx.mul h.hb)).mono (by decide)
  have h2 : Bd 6 (c + y) := (h.hc.add hy).mono (by decide)
  have e1 : frOf (ptF (a + x * b) b (c + y)).1 = frMk (a + x * b) b := frOf_enc (frMk_vd _ h.b0)
  rw [e1, Spt.of2, add_int (k := 6) (by decide) h1 (h.hb.mono (by decide)) hx' h.b0, add_int (k := 6) (by decide) h2 bdN1 hy' (by decide)]
  unfold ptF
  rw [show a + x * b + -x * b = a by grind, show c + y + -y * ((1 : Nat) : Int) = c by simp; omega]
/-- A fraction of small terms: valid, its terms small. -/
theorem frB_good {k : Nat} {n : Int} {d : Nat} (hk : k ≤ 200) (hn : Bd k n) (hd : Bd k (d : Int)) (d0 : d ≠ 0) : Good (frMk n d) := (frMk_vd _ d0).good (frK_den (hn.ok hk) (hd.okN hk) d0)
theorem frB_small {n : Int} {d : Nat} (hn : Bd 8 n) (hd : Bd 8 (d : Int)) (d0 : d ≠ 0) : (frMk n d).1.natAbs < 1000000000 ∧ (frMk n d).2 < 1000000000 := by
  obtain ⟨g, n', d', hg, e1, e2, h3, e4⟩ := frK_split (hn.ok (by decide)) (hd.okN (by decide)) d0
  rw [e4]
  unfold Bd at hn hd
  have h1 : n'.natAbs ≤ n.natAbs := by rw [e1, Int.natAbs_mul, Int.natAbs_natCast]; exact Nat.le_mul_of_pos_left _ hg
  have h2 : d' ≤ d := by rw [e2]; exact Nat.le_mul_of_pos_left _ hg
  constructor
  · show n'.natAbs < _; omega
  · show d' < _; omega
theorem pt_parse {a : Int} {b : Nat} {c : Int} (h : Spt a b c) : pP (fR (frMk a b) ++ 44 :: fR (frMk c 1)) = some (frMk a b, frMk c 1) := by
  have s1 := frB_small (h.ha.mono (by decide)) (h.hb.mono (by decide)) h.b0
  have s2 := frB_small (h.hc.mono (by decide)) (bdN1 (k := 8)) (by decide)
  exact pP_fP (frB_good (k := 2) (by decide) h.ha h.hb h.b0) (frB_good (k := 2) (by decide) h.hc bdN1 (by decide)) s1.1 s1.2 s2.1 s2.2
theorem pt_ok {k : Nat} {a c : Int} {b d : Nat} (hk : k ≤ 200) (ha : Bd k a) (hb : Bd k (b : Int)) (hc : Bd k c) (hd : Bd k (d : Int)) (b0 : b ≠ 0) (d0 : d ≠ 0) : pointB (encR (frMk a b), encR (frMk c d)) = true := by
  unfold pointB
  rw [ratOk_iff.2 ⟨_, frB_good hk ha hb b0, rfl⟩, ratOk_iff.2 ⟨_, frB_good hk hc hd d0, rfl⟩]
  rfl
theorem Spt.ok {a : Int} {b : Nat} {c : Int} (h : Spt a b c) : pointB (ptF a b c) = true := pt_ok (k := 2) (by decide) h.ha h.hb h.hc bdN1 h.b0 (by decide)
theorem mid_ok {a1 : Int} {b1 : Nat} {c1 a2 : Int} {b2 : Nat} {c2 : Int} (h1 : Spt a1 b1 c1) (h2 : Spt a2 b2 c2) : pointB (midP (ptF a1 b1 c1) (ptF a2 b2 c2)) = true := by
  rw [mid_pt h1 h2]
  exact pt_ok (k := 6) (by decide) ((bd_mdN h1.ha h1.hb h2.ha h2.hb).mono (by decide)) (((h1.hb.mulN h2.hb).mulN (bd_two (by decide))).mono (by decide : 2 + 2 + 1 ≤ 6)) ((h1.hc.add h2.hc).mono (by decide)) (bd_two (by decide)) (Nat.mul_ne_zero (Nat.mul_ne_zero h1.b0 h2.b0) (by decide)) (by decide)
theorem mv_ok {a : Int} {b : Nat} {c x y : Int} (h : Spt a b c) (hx : Bd 2 x) (hy : Bd 2 y) : pointB (mvF (ptF a b c) x y) = true := by
  rw [mv_pt h hx hy]
  exact pt_ok (k := 6) (by decide) (((h.ha.mono (by decide : 2 ≤ 4)).add (hx.mul h.hb)).mono (by decide)) (h.hb.mono (by decide)) ((h.hc.add hy).mono (by decide)) bdN1 h.b0 (by decide)
/-- What moving, middling give is valid where both fractions are. -/
theorem or_ok {f g : Fr} (hf : Vd f) (hg : Vd g) (h : pointB (encR f, encR g) = true) : (decide (f.2 ≠ 0) && decide (g.2 ≠ 0)) = true := by
  unfold pointB at h
  rw [Bool.and_eq_true] at h
  have h1 := ratOk_frOf (encR f)
  have h2 := ratOk_frOf (encR g)
  rw [frOf_enc hf] at h1
  rw [frOf_enc hg] at h2
  rw [← h1, ← h2, h.1, h.2]
  rfl
theorem wpV {f g : Fr} (hf : Vd f) (hg : Vd g) : wPoint (encR f, encR g) ≤ 1048576 := by
  have h : ∀ {f : Fr}, Vd f → wRat (encR f) ≤ 48 := by
    intro f h
    have h1 := h.sm1
    have h2 := h.sm2
    unfold wRat wBigInt wIntS encR encZ
    show (limbs f.1.natAbs).length + (limbs f.2).length ≤ 48
    omega
  have h1 := h hf
  have h2 := h hg
  unfold wPoint
  show wRat (encR f) + wRat (encR g) ≤ 1048576
  omega
theorem wpt {a : Int} {b : Nat} {c : Int} (h : Spt a b c) : wPoint (ptF a b c) ≤ 1048576 := wpV (frMk_vd _ h.b0) (frMk_vd _ (by decide))
theorem wmid (p q : QP) : wPoint (midP p q) ≤ 1048576 := wpV frMul_vd frMul_vd
theorem wmv (p : QP) (x y : Int) : wPoint (mvF p x y) ≤ 1048576 := wpV frAdd_vd frAdd_vd
end Go.Proofs.YtnbefpfijaimjaaGreatDoor
