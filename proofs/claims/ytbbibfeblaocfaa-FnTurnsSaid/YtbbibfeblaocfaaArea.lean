/- Contracts of DoubleArea, and FnExactDoubleArea: it returns true for every list of vectors. -/
import Derived.Test.YtbbibfeblaocfaaReach
import Derived.Deep.RegionHeld3
namespace Go.Proofs.Ytbbibfeblaocfaa
open Go.RowKit
def gv (l : List QV) (k : Nat) : QV := l.getD k (0, 0)
def cr (a b : QV) : Int := a.1 * b.2 - a.2 * b.1
def fanS (l : List QV) : Nat → Int
  | 0 => 0
  | k + 1 => fanS l k + tn (gv l 0) (gv l k) (gv l (k + 1))
def shoeS (l : List QV) : Nat → Int
  | 0 => 0
  | k + 1 => shoeS l k + cr (gv l k) (gv l ((k + 1) % l.length))
noncomputable def areaF (l : List QV) : Int := if isPoly l then shoeS l l.length else 0
theorem tn_cr (a b c : QV) : tn a b c = cr a b + cr b c + cr c a := by
  unfold tn cr
  simp only [Int.sub_mul, Int.mul_sub]
  have h1 := Int.mul_comm b.1 a.2
  have h2 := Int.mul_comm a.1 c.2
  have h3 := Int.mul_comm a.1 a.2
  have h4 := Int.mul_comm b.2 a.1
  have h5 := Int.mul_comm a.2 c.1
  omega
theorem cr_anti (a b : QV) : cr a b = - cr b a := by
  unfold cr
  have h1 := Int.mul_comm a.1 b.2
  have h2 := Int.mul_comm a.2 b.1
  omega
theorem fan_shoe (l : List QV) : ∀ k, k < l.length → fanS l k = shoeS l k + cr (gv l k) (gv l 0) := by
  intro k
  induction k with
  | zero =>
    intro _
    have := cr_anti (gv l 0) (gv l 0)
    simp only [fanS, shoeS]
    omega
  | succ k ih =>
    intro hk
    have h1 := ih (by omega)
    have h2 := cr_anti (gv l k) (gv l 0)
    rw [fanS, shoeS, Nat.mod_eq_of_lt hk, tn_cr, h1]
    omega
theorem fan_area {l : List QV} (h : 0 < l.length) : fanS l (l.length - 1) = shoeS l l.length := by
  obtain ⟨n, hn⟩ : ∃ n, l.length = n + 1 := ⟨l.length - 1, by omega⟩
  rw [fan_shoe l _ (by omega)]
  have e : shoeS l l.length = shoeS l (n + 1) := by rw [hn]
  rw [e, shoeS, hn, Nat.mod_self]
  rfl
theorem gv_isV {l : List QV} (h : l.all isV = true) (k : Nat) : isV (gv l k) = true := by
  unfold gv
  rw [List.getD_eq_getElem?_getD]
  cases hk : l[k]? with
  | none => rfl
  | some x => exact List.all_eq_true.1 h x (List.mem_of_getElem? hk)
theorem fan_bd {l : List QV} (h : l.all isV = true) (k : Nat) : -(8000000 * (k : Int)) ≤ fanS l k ∧ fanS l k ≤ 8000000 * (k : Int) := by
  induction k with
  | zero => simp [fanS]
  | succ k ih =>
    have := tn_bound (gv_isV h 0) (gv_isV h k) (gv_isV h (k + 1))
    rw [fanS]
    omega
theorem cr_bd {a b : QV} (ha : isV a = true) (hb : isV b = true) : (-1000000 ≤ a.1 * b.2 ∧ a.1 * b.2 ≤ 1000000) ∧ -1000000 ≤ a.2 * b.1 ∧ a.2 * b.1 ≤ 1000000 := by
  obtain ⟨a1, a2⟩ := isV_iff.1 ha
  obtain ⟨b1, b2⟩ := isV_iff.1 hb
  exact ⟨mul_bd (x := a.1) (y := b.2) 1000 1000 a1 b2, mul_bd (x := a.2) (y := b.1) 1000 1000 a2 b1⟩
theorem shoe_bd {l : List QV} (h : l.all isV = true) (k : Nat) : -(2000000 * (k : Int)) ≤ shoeS l k ∧ shoeS l k ≤ 2000000 * (k : Int) := by
  induction k with
  | zero => simp [shoeS]
  | succ k ih =>
    have := cr_bd (gv_isV h k) (gv_isV h ((k + 1) % l.length))
    rw [shoeS]
    unfold cr
    omega
set_option maxHeartbeats 1600000 in
theorem impl_DoubleArea (v : Value) (l : List QV) (w : World) (hv : tVecs.at w [v] l) (hl : l.length ≤ 1048576) :
    Calls Try.prog 16 #[v] w fun e w' => e = .returned (.int .i64 (areaF l)) ∧ More w w' := by
  have HV0 := Lib.hid hv
  obtain ⟨ao, cap, rfl⟩ := sl_len hv
  have HV := Lib.hid hv; clear hv
  have HL := Lib.hid hl
  obtain ⟨n, hn⟩ : ∃ n, n = l.length := ⟨_, rfl⟩
  rw [← hn] at HV HV0 hl ⊢
  have HN := Lib.hid hn; clear hn
  rcases Bool.eq_false_or_eq_true (isPoly l) with hp | hp
  · have HP := Lib.hid hp
    have HA := Lib.hid (poly_isV hp)
    have n3 : 3 ≤ n ∧ n ≤ 16 := by have := (isPoly_iff.1 hp).1; rw [← HN.out] at this; exact this
    go_enter Try.func16, Try.ntmps16
    go_wp2_with (go_at_call 14; refine (impl_IsPolygon _ l _ HV0.out HL.out).mono ?_; rintro e w1 ⟨rfl, hb1⟩)
    clear hp
    go_loopw [3, 4] (fun c i wr => ∃ k : Nat, k + 1 ≤ n ∧ 1 ≤ k ∧ i = .int .i64 (k + 1) ∧ More w wr ∧ (∃ q, c = .int .i64 q ∧ Hid (q = fanS l k) ∧ -160000000 ≤ q ∧ q ≤ 160000000)) (fun _ i _ => n - (intOf i).toNat)
    case atStart =>
      have h0 : fanS l 1 = 0 := by
        simp only [fanS, tn_cr]
        have h1 := cr_anti (gv l 0) (gv l 0)
        have h2 := cr_anti (gv l 0) (gv l (0 + 1))
        omega
      exact ⟨1, by omega, by omega, by simp, mC, 0, rfl, Lib.hid h0.symm, by omega, by omega⟩
    case round =>
      obtain ⟨k, hk, hk1, rfl, hm, q, rfl, HQ, q0, q1⟩ := hrel
      by_cases hlt : k + 1 < n
      · obtain ⟨b, off, ax, ay, rfl, hblt, hx, -, -, a0, a1⟩ := vec_el (Ty.at_more HV.out hm) (k := 0) (by rw [← HN.out]; omega)
        obtain ⟨b', off', bx, bY, e', hblt', hx', -, -, b0, b1⟩ := vec_el (Ty.at_more HV.out hm) (k := k) (by rw [← HN.out]; omega)
        cases e'
        obtain ⟨b'', off'', cx, cy, e'', hblt'', hx'', -, -, c0, c1⟩ := vec_el (Ty.at_more HV.out hm) (k := k + 1) (by rw [← HN.out]; omega)
        cases e''
        have va := List.all_eq_true.1 HA.out _ (List.mem_of_getElem? hx)
        have vb := List.all_eq_true.1 HA.out _ (List.mem_of_getElem? hx')
        have vc := List.all_eq_true.1 HA.out _ (List.mem_of_getElem? hx'')
        have hnx : fanS l (k + 1) = q + tn (ax, ay) (bx, bY) (cx, cy) := by
          rw [fanS, HQ.out, gv, getD_of hx, gv, getD_of hx', gv, getD_of hx'']
        have hbd := fan_bd HA.out (k + 1)
        rw [hnx] at hbd
        have tb := tn_bound va vb vc
        have VA := Lib.hid va; have VB := Lib.hid vb; have VC := Lib.hid vc; have HNX := Lib.hid hnx
        clear va vb vc hnx hx hx' hx''
        obtain ⟨t1, t2⟩ := tb
        have s1 : -9000000000 ≤ q + tn (ax, ay) (bx, bY) (cx, cy) := by omega
        have s2 : q + tn (ax, ay) (bx, bY) (cx, cy) ≤ 9000000000 := by omega
        have s3 : -160000000 ≤ q + tn (ax, ay) (bx, bY) (cx, cy) := by omega
        have s4 : q + tn (ax, ay) (bx, bY) (cx, cy) ≤ 160000000 := by omega
        rw [Nat.zero_mul, Nat.add_zero] at a0 a1
        have A0 : ∀ w', More wr w' → w'.cell? ⟨b, off, none⟩ = some (.int .i64 ax) := fun w' h => box_keep h hblt a0
        have A1 : ∀ w', More wr w' → w'.cell? ⟨b, off + 1, none⟩ = some (.int .i64 ay) := fun w' h => box_keep h hblt a1
        have B0 : ∀ w', More wr w' → w'.cell? ⟨b, off + k * 2, none⟩ = some (.int .i64 bx) := fun w' h => box_keep h hblt b0
        have B1 : ∀ w', More wr w' → w'.cell? ⟨b, off + k * 2 + 1, none⟩ = some (.int .i64 bY) := fun w' h => box_keep h hblt b1
        have C0 : ∀ w', More wr w' → w'.cell? ⟨b, off + (k + 1) * 2, none⟩ = some (.int .i64 cx) := fun w' h => box_keep h hblt c0
        have C1 : ∀ w', More wr w' → w'.cell? ⟨b, off + (k + 1) * 2 + 1, none⟩ = some (.int .i64 cy) := fun w' h => box_keep h hblt c1
        have g1 : (0 : Int) < ↑n := by omega
        have g2 : (0 : Int) ≤ ↑k := by omega
        have g3 : (↑k : Int) < ↑n := by omega
        have g4 : (0 : Int) ≤ ↑k + 1 := by omega
        have g5 : (↑k : Int) + 1 < ↑n := by omega
        have g6 : IntKind.i64.wrap (↑k + 1 - 1) = (↑k : Int) := by rw [IntKind.wrap_i64]; omega
        have g7 : IntKind.i64.wrap (q + tn (ax, ay) (bx, bY) (cx, cy)) = q + tn (ax, ay) (bx, bY) (cx, cy) := by rw [IntKind.wrap_i64]; omega
        have g9 : 0 < n := by omega
        have g10 : k < n := by omega
        have g11 : ¬ n = 0 := by omega
        have g12 : (↑k + 1 - 1 : Int) = ↑k := by omega
        have g13 : IntKind.i64.wrap (↑k : Int) = ↑k := by rw [IntKind.wrap_i64]; omega
        have g14 : IntKind.i64.wrap (↑k + 1 : Int) = ↑k + 1 := by rw [IntKind.wrap_i64]; omega
        have g15 : ¬ (↑k : Int) < 0 := by omega
        have g16 : (↑k : Int).toNat = k := by omega
        have g8 : (↑k + 1 : Int).toNat = k + 1 := by omega
        go_wp2_with fail
        go_region_held3 (fun w' => More wr w') (first | exact More.refl _ | exact mC) (first | (go_at_call 64; refine (impl_turn _ _ _ _ _ _ _ VA.out VB.out VC.out).mono ?_; rintro e w1 ⟨rfl, hb1⟩))
        go_wp2_with fail
        go_roundw
        case rel => exact ⟨k + 1, by omega, by omega, by go_num, mC, _, rfl, Lib.hid HNX.out.symm, s3, s4⟩
        case measure => simp [intOf]; omega
      · go_wp2_with fail
        go_ret
        exact ⟨ret_int (by
          rw [HQ.out, areaF, if_pos HP.out, ← fan_area (by rw [← HN.out]; omega), ← HN.out]
          congr 1
          omega), hm⟩
  · have HP := Lib.hid hp
    go_enter Try.func16, Try.ntmps16
    go_wp2_with (go_at_call 14; refine (impl_IsPolygon _ l _ HV0.out HL.out).mono ?_; rintro e w1 ⟨rfl, hb1⟩)
    go_ret
    exact ⟨ret_int (by rw [areaF, HP.out]; rfl), mC⟩
end Go.Proofs.Ytbbibfeblaocfaa
