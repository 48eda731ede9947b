/- Quarter turns of polygons: plain facts. -/
import Derived.Test.YtbbibfeblaocfaaTurnP
import Derived.Test.YtbbibfeblaocfaaArea
import Derived.Test.YtbbibfeblaocfaaReach
import Derived.Test.YtbbibfeblaocfaaSame
import Derived.Test.YtbbibfeblaocfaaBetwI
import Derived.Test.YtbbibfeblaocfaaHead
namespace Go.Proofs.Ytbbibfeblaocfaa
open Go.RowKit
theorem isV_rot (v : QV) : isV (-v.2, v.1) = isV v := by
  rw [Bool.eq_iff_iff, isV_iff, isV_iff]
  constructor <;> intro h <;> simp only at h ⊢ <;> omega
theorem isV_rotN (n : Nat) (v : QV) : isV (rotN n v) = isV v := by
  induction n with
  | zero => rfl
  | succ n ih => rw [rotN, isV_rot, ih]
theorem tn_rot (a b c : QV) : tn (-a.2, a.1) (-b.2, b.1) (-c.2, c.1) = tn a b c := by
  unfold tn
  grind
theorem tn_rotN (n : Nat) (a b c : QV) : tn (rotN n a) (rotN n b) (rotN n c) = tn a b c := by
  induction n with
  | zero => rfl
  | succ n ih => rw [rotN, rotN, rotN, tn_rot, ih]
theorem turnF_rotN (n : Nat) (a b c : QV) : turnF (rotN n a) (rotN n b) (rotN n c) = turnF a b c := by
  unfold turnF
  rw [show [rotN n a, rotN n b, rotN n c].all isV = [a, b, c].all isV by simp only [List.all_cons, List.all_nil, isV_rotN], tn_rotN]
theorem cr_rot (a b : QV) : cr (-a.2, a.1) (-b.2, b.1) = cr a b := by
  unfold cr
  grind
theorem cr_rotN (n : Nat) (a b : QV) : cr (rotN n a) (rotN n b) = cr a b := by
  induction n with
  | zero => rfl
  | succ n ih => rw [rotN, rotN, cr_rot, ih]
theorem sq_rotN (n : Nat) (a : QV) : sqV (rotN n a) = sqV a := by
  induction n with
  | zero => rfl
  | succ n ih =>
    rw [← ih, rotN]
    unfold sqV
    grind
theorem rotN_zero (n : Nat) : rotN n (0, 0) = (0, 0) := by
  induction n with
  | zero => rfl
  | succ n ih => rw [rotN, ih]; rfl
theorem rotN_add (a b : Nat) (v : QV) : rotN a (rotN b v) = rotN (a + b) v := by
  induction a with
  | zero => rw [Nat.zero_add]; rfl
  | succ a ih => rw [rotN, ih, Nat.add_right_comm, rotN]
theorem rotN_four (v : QV) : rotN 4 v = v := by
  simp only [rotN, Int.neg_neg]
theorem getD_rot (l : List QV) (n i : Nat) : (l.map (rotN n)).getD i (0, 0) = rotN n (l.getD i (0, 0)) := by
  rw [List.getD_eq_getElem?_getD, List.getD_eq_getElem?_getD, List.getElem?_map]
  cases l[i]? with
  | none => exact (rotN_zero n).symm
  | some v => rfl
theorem okS_rot (l : List QV) (n i j : Nat) : okS (l.map (rotN n)) i j = okS l i j := by
  unfold okS
  rw [getD_rot, getD_rot, getD_rot, List.length_map, isV_rotN, turnF_rotN]
theorem isPoly_rot (l : List QV) (n : Nat) : isPoly (l.map (rotN n)) = isPoly l := by
  rw [Bool.eq_iff_iff, isPoly_iff, isPoly_iff]
  unfold PolyP rowS
  simp only [List.length_map, okS_rot]
theorem shoeS_rot (l : List QV) (n m : Nat) : shoeS (l.map (rotN n)) m = shoeS l m := by
  induction m with
  | zero => rfl
  | succ m ih =>
    rw [shoeS, shoeS, ih, List.length_map]
    unfold gv
    rw [getD_rot, getD_rot, cr_rotN]
theorem areaF_rot (l : List QV) (n : Nat) : areaF (l.map (rotN n)) = areaF l := by
  unfold areaF
  rw [isPoly_rot, shoeS_rot, List.length_map]
theorem reachF_rot (l : List QV) (n : Nat) : reachF (l.map (rotN n)) = reachF l := by
  unfold reachF reachU
  rw [isPoly_rot, List.foldl_map]
  simp only [sq_rotN]
theorem turnP_rot {l : List QV} (h : isPoly l = true) (k : Int) : turnP l k = l.map (rotN (k % 4).toNat) := by
  unfold turnP
  rw [if_pos (poly_isV h)]
  rfl
theorem same_self {l : List QV} (h : 0 < l.length) : samePF l l = true := by
  unfold samePF
  simp only [decide_true, Bool.true_and, Bool.or_eq_true, List.any_eq_true]
  refine .inr ⟨0, by simp; exact h, ?_⟩
  simp [rotL]
theorem poly_pos {l : List QV} (h : isPoly l = true) : 0 < l.length ∧ l.length ≤ 16 := by
  have := isPoly_iff.1 h
  exact ⟨by have := this.1.1; omega, this.1.2⟩
theorem turn_isPoly {l : List QV} (h : isPoly l = true) (k : Int) : isPoly (turnP l k) = true := by rw [turnP_rot h, isPoly_rot, h]
theorem turn_area {l : List QV} (h : isPoly l = true) (k : Int) : areaF (turnP l k) = areaF l := by rw [turnP_rot h, areaF_rot]
theorem turn_reach {l : List QV} (h : isPoly l = true) (k : Int) : reachF (turnP l k) = reachF l := by rw [turnP_rot h, reachF_rot]
theorem turn_back {l : List QV} (h : isPoly l = true) (k : Int) : turnP (turnP l k) (4 - k) = l := by
  have h2 := turn_isPoly h k
  rw [turnP_rot h2, turnP_rot h, List.map_map]
  have : ((rotN ((4 - k) % 4).toNat) ∘ rotN (k % 4).toNat) = id := by
    funext v
    show rotN _ (rotN _ v) = v
    rw [rotN_add]
    rcases (show ((4 - k) % 4).toNat + (k % 4).toNat = 0 ∨ ((4 - k) % 4).toNat + (k % 4).toNat = 4 by omega) with e | e
    · rw [e]; rfl
    · rw [e]; exact rotN_four v
  rw [this, List.map_id]
theorem turns_lead {g h : Int} (hg : 0 ≤ g ∧ g ≤ 3) (hh : 0 ≤ h ∧ h ≤ 3) : (tbF g h).foldl nextH g = h ∧ (tbF g h).length ≤ 2 := by
  obtain ⟨g0, g1⟩ := hg
  obtain ⟨h0, h1⟩ := hh
  rcases (show g = 0 ∨ g = 1 ∨ g = 2 ∨ g = 3 by omega) with rfl | rfl | rfl | rfl <;> rcases (show h = 0 ∨ h = 1 ∨ h = 2 ∨ h = 3 by omega) with rfl | rfl | rfl | rfl <;> decide
end Go.Proofs.Ytbbibfeblaocfaa
