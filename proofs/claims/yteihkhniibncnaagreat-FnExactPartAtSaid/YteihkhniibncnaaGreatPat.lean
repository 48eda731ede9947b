/- PartAt: the part of the cell in which a point lies, or of the first door of its wall. -/
import Derived.Test.YteihkhniibncnaaGreatThn
import Derived.Test.YteihkhniibncnaaGreatCat
import Derived.Test.YteihkhniibncnaaGreatWat
import Derived.Test.YteihkhniibncnaaGreatGVec
import Derived.Deep.RegionHeld3
import Derived.Deep.DeepCutAuto
import Derived.Deep.QuietTactic
import Derived.BigQuiet
namespace Go.Proofs.YteihkhniibncnaaGreat
open Go.RowKit
theorem bx11 {X w : World} {c0 c1 c2 c3 c4 c5 c6 c7 c8 c9 c10 : Value} {t : TypeId} (N : Nat) (hN : X.heap.size = N) (h : More (X.alloc (.cells #[c0, c1, c2, c3, c4, c5, c6, c7, c8, c9, c10] t)) w) : w.cell? ⟨N, 0, none⟩ = some c0 ∧ w.cell? ⟨N, 1, none⟩ = some c1 ∧ w.cell? ⟨N, 2, none⟩ = some c2 ∧ w.cell? ⟨N, 3, none⟩ = some c3 ∧ w.cell? ⟨N, 4, none⟩ = some c4 ∧ w.cell? ⟨N, 5, none⟩ = some c5 ∧ w.cell? ⟨N, 6, none⟩ = some c6 ∧ w.cell? ⟨N, 7, none⟩ = some c7 ∧ w.cell? ⟨N, 8, none⟩ = some c8 ∧ w.cell? ⟨N, 9, none⟩ = some c9 ∧ w.cell? ⟨N, 10, none⟩ = some c10 ∧ (∀ j, w.frozen? ⟨N, j, none⟩ = false) := ⟨box_new hN h 0, box_new hN h 1, box_new hN h 2, box_new hN h 3, box_new hN h 4, box_new hN h 5, box_new hN h 6, box_new hN h 7, box_new hN h 8, box_new hN h 9, box_new hN h 10, fun j => box_free hN h j⟩
def doorP (w : Int) (d : QDoor) : Bool := decide (d.2 = w)
def doorCell (l : List QDoor) (w : Int) : Int := match l.find? (doorP w) with | some d => d.1 | none => -1
noncomputable def cofI (x : QSlice) (p : QP) : Int := if 0 ≤ idxI (catP p) x.2.2.2.2.1 then idxI (catP p) x.2.2.2.2.1 else if idxI (watP p) x.2.2.2.2.2.1 < 0 then -1 else doorCell x.2.2.2.2.2.2.1 (idxI (watP p) x.2.2.2.2.2.1)
noncomputable def partI (x : QSlice) (p : QP) : Int := if inR (cofI x p) 0 ((x.2.2.2.2.2.2.2.length : Int) - 1) then (x.2.2.2.2.2.2.2[(cofI x p).toNat]?).getD 0 else -1
theorem find_at {α : Type} {p : α → Bool} : ∀ {l : List α} {j : Nat} {x : α}, (∀ (i : Nat) y, i < j → l[i]? = some y → p y = false) → l[j]? = some x → p x = true → l.find? p = some x
  | [], _, _, _, h, _ => by simp at h
  | y :: ys, 0, x, _, h, k => by
    simp at h
    subst h
    simp [k]
  | y :: ys, j + 1, x, a, h, k => by
    have h0 := a 0 y (by omega) rfl
    rw [List.find?_cons, h0]
    exact find_at (j := j) (fun i z hi hz => a (i + 1) z (by omega) (by simpa using hz)) (by simpa using h) k
theorem find_no {α : Type} {p : α → Bool} {l : List α} (h : ∀ (i : Nat) y, l[i]? = some y → p y = false) : l.find? p = none := List.find?_eq_none.2 (fun x hx => by
  obtain ⟨i, hi⟩ := List.mem_iff_getElem?.1 hx
  simp [h i x hi])
theorem idxI_out {α : Type} {p : α → Bool} {l : List α} {c : Int} (h : idxI p l = c) : (c = -1 ∧ ∀ (i : Nat) y, l[i]? = some y → p y = false) ∨ ∃ (j : Nat) (x : α), c = (j : Int) ∧ l[j]? = some x ∧ p x = true ∧ ∀ (i : Nat) y, i < j → l[i]? = some y → p y = false := by
  unfold idxI at h
  by_cases ha : l.any p = true
  · rw [if_pos ha] at h
    right
    obtain ⟨x, hx, hp⟩ := List.any_eq_true.1 ha
    have hlt : l.findIdx p < l.length := List.findIdx_lt_length_of_exists ⟨x, hx, hp⟩
    refine ⟨l.findIdx p, l[l.findIdx p], h.symm, List.getElem?_eq_getElem hlt, List.findIdx_getElem, fun i y hi hy => ?_⟩
    have h1 := List.not_of_lt_findIdx hi
    have h2 := (List.getElem?_eq_some_iff.1 hy).2
    rw [h2] at h1
    simpa using h1
  · rw [if_neg ha] at h
    left
    refine ⟨h.symm, fun i y hy => ?_⟩
    cases hq : p y
    · rfl
    · exact absurd (List.any_eq_true.2 ⟨y, List.mem_of_getElem? hy, hq⟩) ha
theorem doorCell_at {l : List QDoor} {w : Int} {j : Nat} {d : QDoor} (a : ∀ (i : Nat) y, i < j → l[i]? = some y → doorP w y = false) (h : l[j]? = some d) (k : doorP w d = true) : doorCell l w = d.1 := by unfold doorCell; rw [find_at a h k]
theorem doorCell_no {l : List QDoor} {w : Int} (h : ∀ (i : Nat) y, l[i]? = some y → doorP w y = false) : doorCell l w = -1 := by unfold doorCell; rw [find_no h]
theorem cofI_c {x : QSlice} {p : QP} {c : Int} (h : idxI (catP p) x.2.2.2.2.1 = c) (k : 0 ≤ c) : cofI x p = c := by unfold cofI; rw [h, if_pos k]
theorem cofI_w {x : QSlice} {p : QP} {c w : Int} (h : idxI (catP p) x.2.2.2.2.1 = c) (k : c < 0) (h2 : idxI (watP p) x.2.2.2.2.2.1 = w) (k2 : w < 0) : cofI x p = -1 := by unfold cofI; rw [h, if_neg (by omega), h2, if_pos k2]
theorem cofI_d {x : QSlice} {p : QP} {c w : Int} (h : idxI (catP p) x.2.2.2.2.1 = c) (k : c < 0) (h2 : idxI (watP p) x.2.2.2.2.2.1 = w) (k2 : 0 ≤ w) : cofI x p = doorCell x.2.2.2.2.2.2.1 w := by unfold cofI; rw [h, if_neg (by omega), h2, if_neg (by omega)]
theorem partI_no {x : QSlice} {p : QP} {k : Int} (h : cofI x p = k) (h2 : inR k 0 ((x.2.2.2.2.2.2.2.length : Int) - 1) = false) : partI x p = -1 := by unfold partI; rw [h, h2]; rfl
theorem partI_yes {x : QSlice} {p : QP} {k : Nat} {v : Int} (h : cofI x p = (k : Int)) (h2 : inR (k : Int) 0 ((x.2.2.2.2.2.2.2.length : Int) - 1) = true) (h3 : x.2.2.2.2.2.2.2[k]? = some v) : partI x p = v := by unfold partI; rw [h, h2]; simp [h3]
set_option maxHeartbeats 1600000 in
theorem impl_cellOf_1 (bx : Nat) (d1 d2 wl : Int) (w : World) (hb : bx < w.heap.size) (hq : w.cell? ⟨bx, 0, none⟩ = some (.int .i64 wl)) :
    Calls Tryz.prog 161 #[.agg #[.int .i64 d1, .int .i64 d2], .pointer (some ⟨bx, 0, none⟩)] w fun e w' => e = .returned (.bool (doorP wl (d1, d2))) ∧ More w w' := by
  have hne : w.heap.size ≠ bx := by omega
  go_enter Tryz.func161, Tryz.ntmps161
  go_wp2_with fail
  go_ret
  exact ⟨ret_bool (by rw [Bool.eq_iff_iff]; simp [doorP]), mC⟩
set_option maxHeartbeats 1600000 in
theorem indexFunc_cellOf (v : Value) (l : List (QDoor)) (w : World) (bx : Nat) (wl : Int) (hb : bx < w.heap.size) (hq : w.cell? ⟨bx, 0, none⟩ = some (.int .i64 wl)) (hv : tDoorS.at w [v] l) (hl : l.length ≤ 1048576) :
    Calls Tryz.prog 160 #[v, .func (.func 161) #[] #[.pointer (some ⟨bx, 0, none⟩)]] w fun e w' => e = .returned (.int .i64 (idxI (doorP wl) l)) ∧ More w w' := by
  obtain ⟨ao, cap, rfl⟩ := sl_len hv
  have HV := Lib.hid hv; clear hv
  skip
  have Q : Hid (∀ W, More w W → bx < W.heap.size ∧ W.cell? ⟨bx, 0, none⟩ = some (.int .i64 wl)) := Lib.hid (fun W h => ⟨Nat.lt_of_lt_of_le hb h.size, ((bcell h).1 _ _ hb).trans hq⟩)
  clear hb hq
  obtain ⟨n, hn⟩ : ∃ n, n = l.length := ⟨_, rfl⟩
  rw [← hn] at HV hl ⊢
  have HN := Lib.hid hn; clear hn
  go_enter Tryz.func160, Tryz.ntmps160
  go_wp2_with fail
  go_loopw [8] (fun i wr => ∃ k : Nat, k ≤ n ∧ i = .int .i64 k ∧ More w wr ∧ Hid (∀ (i : Nat) y, i < k → l[i]? = some y → (doorP wl) y = false)) (fun i _ => n - (intOf i).toNat)
  case atStart => exact ⟨0, Nat.zero_le _, rfl, More.refl _, Lib.hid (fun i y hi => by omega)⟩
  case round =>
    obtain ⟨k, hk, rfl, hm, HB⟩ := hrel
    by_cases hlt : k < n
    · obtain ⟨b, off, x, rfl, hblt, hx, hat, c0_, c1_⟩ := el_Door (Ty.at_more HV.out hm) (k := k) (by rw [← HN.out]; exact hlt)
      have HX := Lib.hid hx; have HA := Lib.hid hat; clear hx hat
      rcases Bool.eq_false_or_eq_true ((doorP wl) x) with hd | hd
      all_goals
        have HD := Lib.hid hd
        go_wp2_with fail
        refine (impl_cellOf_1 bx x.1 x.2 wl _ (Q.out _ hm).1 (Q.out _ hm).2).mono ?_
        rintro e w1 ⟨rfl, hb1⟩
        rw [HD.out]
        go_wp2_with fail
      · go_ret
        exact ⟨ret_int (idxI_found HB.out HX.out HD.out).symm, mC⟩
      · go_roundw
        case rel => exact ⟨k + 1, by omega, by go_num, mC, Lib.hid (fun i z hi hz => by
          rcases Nat.lt_succ_iff_lt_or_eq.1 hi with h | rfl
          · exact HB.out i z h hz
          · rw [HX.out] at hz; cases hz; exact HD.out)⟩
        case measure => simp [intOf]; omega
    · go_wp2_with fail
      go_ret
      exact ⟨ret_int (idxI_none (fun i z hz => HB.out i z (by have := (List.getElem?_eq_some_iff.1 hz).1; have := HN.out; omega) hz)).symm, hm⟩
set_option maxRecDepth 8000 in
set_option maxHeartbeats 3200000 in
theorem impl_cellOf (cs0 : List Value) (x : QSlice) (cs1 : List Value) (p : QP) (w : World) (hv0 : tSlc.at w cs0 x) (hw0 : wSlice x ≤ 1048576) (hv1 : tPoint.at w cs1 p) (hw1 : wPoint p ≤ 1048576) :
    Calls Tryz.prog 114 #[.agg cs0.toArray, .agg cs1.toArray] w fun e w' => ∃ s : Int, e = .returned (.tuple #[.int .i64 (cofI x p), .int .i64 s]) ∧ More w w' := by
  obtain ⟨k0, d0, rfl, f0, e0⟩ := at_prod hv0
  obtain ⟨k1, d1, rfl, f1, e1⟩ := at_prod e0
  obtain ⟨k2, d2, rfl, f2, e2⟩ := at_prod e1
  obtain ⟨k3, d3, rfl, f3, e3⟩ := at_prod e2
  obtain ⟨k4, d4, rfl, f4, e4⟩ := at_prod e3
  obtain ⟨k5, d5, rfl, f5, e5⟩ := at_prod e4
  obtain ⟨k6, d6, rfl, f6, e6⟩ := at_prod e5
  have f7 := e6; clear e6
  obtain rfl := sh_int f0
  have F0 := Lib.hid f0; clear f0
  obtain rfl := sh_bool f1
  have F1 := Lib.hid f1; clear f1
  obtain rfl := sh_Box f2
  have F2 := Lib.hid f2; clear f2
  obtain ⟨z3a0, z3n0, z3c0, rfl⟩ := sh_slice f3
  have F3 := Lib.hid f3; clear f3
  obtain ⟨z4a0, z4n0, z4c0, rfl⟩ := sh_slice f4
  have F4 := Lib.hid f4; clear f4
  obtain ⟨z5a0, z5n0, z5c0, rfl⟩ := sh_slice f5
  have F5 := Lib.hid f5; clear f5
  obtain ⟨z6a0, z6n0, z6c0, rfl⟩ := sh_slice f6
  have F6 := Lib.hid f6; clear f6
  obtain ⟨z7a0, z7n0, z7c0, rfl⟩ := sh_slice f7
  have F7 := Lib.hid f7; clear f7
  have HV0 : Hid (tSlc.at w [.int .i64 x.1, .bool x.2.1, .int .i64 x.2.2.1.1.1, .int .i64 x.2.2.1.1.2, .int .i64 x.2.2.1.2.1, .int .i64 x.2.2.1.2.2, .slice z3a0 z3n0 z3c0, .slice z4a0 z4n0 z4c0, .slice z5a0 z5n0 z5c0, .slice z6a0 z6n0 z6c0, .slice z7a0 z7n0 z7c0] x) := Lib.hid hv0; clear hv0
  obtain ⟨ya1, yn1, yc1, ya2, yn2, yc2, ya4, yn4, yc4, ya5, yn5, yc5, rfl⟩ := sh_Point hv1
  have HV1 := Lib.hid hv1; have HW1 := Lib.hid hw1; clear hv1 hw1
  have hld : x.2.2.2.2.2.2.1.length ≤ 1048576 := by have h := hw0; unfold wSlice wDoorS at h; omega
  have hlp : x.2.2.2.2.2.2.2.length ≤ 1048576 := by have h := hw0; unfold wSlice wIntS at h; omega
  have HW0 := Lib.hid hw0; clear hw0
  obtain ⟨nd, hnd⟩ : ∃ n, n = x.2.2.2.2.2.2.1.length := ⟨_, rfl⟩
  obtain ⟨np, hnp⟩ : ∃ n, n = x.2.2.2.2.2.2.2.length := ⟨_, rfl⟩
  obtain ⟨ao9, cap9, e9⟩ := sl_len F6.out
  simp only [Value.slice.injEq] at e9
  obtain ⟨-, e2, -⟩ := e9
  subst e2
  obtain ⟨ao8, cap8, e9⟩ := sl_len F7.out
  simp only [Value.slice.injEq] at e9
  obtain ⟨-, e2, -⟩ := e9
  subst e2
  rw [← hnd] at F6 HV0 hld ⊢
  rw [← hnp] at F7 HV0 hlp ⊢
  have HND := Lib.hid hnd; have HNP := Lib.hid hnp; clear hnd hnp
  obtain ⟨kc, hkc⟩ : ∃ c, idxI (catP p) x.2.2.2.2.1 = c := ⟨_, rfl⟩
  obtain ⟨wc, hwc⟩ : ∃ c, idxI (watP p) x.2.2.2.2.2.1 = c := ⟨_, rfl⟩
  have HKC := Lib.hid hkc; have HWC := Lib.hid hwc; clear hkc hwc
  show Calls Tryz.prog 114 #[.agg #[.int .i64 x.1, .bool x.2.1, .int .i64 x.2.2.1.1.1, .int .i64 x.2.2.1.1.2, .int .i64 x.2.2.1.2.1, .int .i64 x.2.2.1.2.2, .slice z3a0 z3n0 z3c0, .slice z4a0 z4n0 z4c0, .slice z5a0 z5n0 z5c0, .slice z6a0 nd z6c0, .slice z7a0 np z7c0], .agg #[.bool p.1.1.1, .slice ya1 yn1 yc1, .slice ya2 yn2 yc2, .bool p.2.1.1, .slice ya4 yn4 yc4, .slice ya5 yn5 yc5]] w _
  by_cases hk0 : 0 ≤ kc
  · rw [cofI_c HKC.out hk0]
    have HX := More.refl ((w.alloc (.cells #[.int .i64 x.1, .bool x.2.1, .int .i64 x.2.2.1.1.1, .int .i64 x.2.2.1.1.2, .int .i64 x.2.2.1.2.1, .int .i64 x.2.2.1.2.2, .slice z3a0 z3n0 z3c0, .slice z4a0 z4n0 z4c0, .slice z5a0 z5n0 z5c0, .slice z6a0 nd z6c0, .slice z7a0 np z7c0] 90)).alloc (.cells #[.bool p.1.1.1, .slice ya1 yn1 yc1, .slice ya2 yn2 yc2, .bool p.2.1.1, .slice ya4 yn4 yc4, .slice ya5 yn5 yc5] 47))
    have HB := fun (w' : World) (h : More ((w.alloc (.cells #[.int .i64 x.1, .bool x.2.1, .int .i64 x.2.2.1.1.1, .int .i64 x.2.2.1.1.2, .int .i64 x.2.2.1.2.1, .int .i64 x.2.2.1.2.2, .slice z3a0 z3n0 z3c0, .slice z4a0 z4n0 z4c0, .slice z5a0 z5n0 z5c0, .slice z6a0 nd z6c0, .slice z7a0 np z7c0] 90)).alloc (.cells #[.bool p.1.1.1, .slice ya1 yn1 yc1, .slice ya2 yn2 yc2, .bool p.2.1.1, .slice ya4 yn4 yc4, .slice ya5 yn5 yc5] 47)) w') => And.intro (bx11 (w.heap.size) (by simp) (More.un h)) (bx6 (w.heap.size + 1) (by simp) h)
    have HRx := Lib.hid (fun (w' : World) (h : More ((w.alloc (.cells #[.int .i64 x.1, .bool x.2.1, .int .i64 x.2.2.1.1.1, .int .i64 x.2.2.1.1.2, .int .i64 x.2.2.1.2.1, .int .i64 x.2.2.1.2.2, .slice z3a0 z3n0 z3c0, .slice z4a0 z4n0 z4c0, .slice z5a0 z5n0 z5c0, .slice z6a0 nd z6c0, .slice z7a0 np z7c0] 90)).alloc (.cells #[.bool p.1.1.1, .slice ya1 yn1 yc1, .slice ya2 yn2 yc2, .bool p.2.1.1, .slice ya4 yn4 yc4, .slice ya5 yn5 yc5] 47)) w') => (box_range (by simp) (More.un h) : w'.rangeAt w.heap.size 0 [.int .i64 x.1, .bool x.2.1, .int .i64 x.2.2.1.1.1, .int .i64 x.2.2.1.1.2, .int .i64 x.2.2.1.2.1, .int .i64 x.2.2.1.2.2, .slice z3a0 z3n0 z3c0, .slice z4a0 z4n0 z4c0, .slice z5a0 z5n0 z5c0, .slice z6a0 nd z6c0, .slice z7a0 np z7c0]))
    have HRp := Lib.hid (fun (w' : World) (h : More ((w.alloc (.cells #[.int .i64 x.1, .bool x.2.1, .int .i64 x.2.2.1.1.1, .int .i64 x.2.2.1.1.2, .int .i64 x.2.2.1.2.1, .int .i64 x.2.2.1.2.2, .slice z3a0 z3n0 z3c0, .slice z4a0 z4n0 z4c0, .slice z5a0 z5n0 z5c0, .slice z6a0 nd z6c0, .slice z7a0 np z7c0] 90)).alloc (.cells #[.bool p.1.1.1, .slice ya1 yn1 yc1, .slice ya2 yn2 yc2, .bool p.2.1.1, .slice ya4 yn4 yc4, .slice ya5 yn5 yc5] 47)) w') => (box_range (by simp) h : w'.rangeAt (w.heap.size + 1) 0 [.bool p.1.1.1, .slice ya1 yn1 yc1, .slice ya2 yn2 yc2, .bool p.2.1.1, .slice ya4 yn4 yc4, .slice ya5 yn5 yc5]))
    go_enter Tryz.func114, Tryz.ntmps114
    go_wp2_with (first | (refine wpList_load_mid rfl _ _ rfl w.heap.size 0 rfl [.int .i64 x.1, .bool x.2.1, .int .i64 x.2.2.1.1.1, .int .i64 x.2.2.1.1.2, .int .i64 x.2.2.1.2.1, .int .i64 x.2.2.1.2.2, .slice z3a0 z3n0 z3c0, .slice z4a0 z4n0 z4c0, .slice z5a0 z5n0 z5c0, .slice z6a0 nd z6c0, .slice z7a0 np z7c0] _ (HRx.out _ mC) Tryz.underlying90 rfl (by kernel_rfl) ?_) | (refine wpList_load_mid rfl _ _ rfl (w.heap.size + 1) 0 rfl [.bool p.1.1.1, .slice ya1 yn1 yc1, .slice ya2 yn2 yc2, .bool p.2.1.1, .slice ya4 yn4 yc4, .slice ya5 yn5 yc5] _ (HRp.out _ mC) Tryz.underlying47 rfl (by kernel_rfl) ?_) | (go_at_call 41; (with_reducible refine (impl_CellAt [.int .i64 x.1, .bool x.2.1, .int .i64 x.2.2.1.1.1, .int .i64 x.2.2.1.1.2, .int .i64 x.2.2.1.2.1, .int .i64 x.2.2.1.2.2, .slice z3a0 z3n0 z3c0, .slice z4a0 z4n0 z4c0, .slice z5a0 z5n0 z5c0, .slice z6a0 nd z6c0, .slice z7a0 np z7c0] x [.bool p.1.1.1, .slice ya1 yn1 yc1, .slice ya2 yn2 yc2, .bool p.2.1.1, .slice ya4 yn4 yc4, .slice ya5 yn5 yc5] p _ (Ty.at_more HV0.out mC) HW0.out (Ty.at_more HV1.out mC) HW1.out).mono ?_); rintro e w1 ⟨rfl, hb1⟩; have HX1 := More.trans HX (show More _ w1 from mC); have HB1 := HB _ HX1; have hz1 := More.size HX1; (try simp at hz1); have hb1 := hb1; rw [HKC.out]))
    go_ret2
    exact ⟨_, rfl, mC⟩
  have hk1 : kc < 0 := by omega
  obtain ⟨ic, hic⟩ : ∃ c, idxI (doorP wc) x.2.2.2.2.2.2.1 = c := ⟨_, rfl⟩
  have HIC := Lib.hid hic
  by_cases hw0 : wc < 0
  · rw [cofI_w HKC.out hk1 HWC.out hw0]
    clear hic
    have HX := More.refl ((w.alloc (.cells #[.int .i64 x.1, .bool x.2.1, .int .i64 x.2.2.1.1.1, .int .i64 x.2.2.1.1.2, .int .i64 x.2.2.1.2.1, .int .i64 x.2.2.1.2.2, .slice z3a0 z3n0 z3c0, .slice z4a0 z4n0 z4c0, .slice z5a0 z5n0 z5c0, .slice z6a0 nd z6c0, .slice z7a0 np z7c0] 90)).alloc (.cells #[.bool p.1.1.1, .slice ya1 yn1 yc1, .slice ya2 yn2 yc2, .bool p.2.1.1, .slice ya4 yn4 yc4, .slice ya5 yn5 yc5] 47))
    have HB := fun (w' : World) (h : More ((w.alloc (.cells #[.int .i64 x.1, .bool x.2.1, .int .i64 x.2.2.1.1.1, .int .i64 x.2.2.1.1.2, .int .i64 x.2.2.1.2.1, .int .i64 x.2.2.1.2.2, .slice z3a0 z3n0 z3c0, .slice z4a0 z4n0 z4c0, .slice z5a0 z5n0 z5c0, .slice z6a0 nd z6c0, .slice z7a0 np z7c0] 90)).alloc (.cells #[.bool p.1.1.1, .slice ya1 yn1 yc1, .slice ya2 yn2 yc2, .bool p.2.1.1, .slice ya4 yn4 yc4, .slice ya5 yn5 yc5] 47)) w') => And.intro (bx11 (w.heap.size) (by simp) (More.un h)) (bx6 (w.heap.size + 1) (by simp) h)
    have HRx := Lib.hid (fun (w' : World) (h : More ((w.alloc (.cells #[.int .i64 x.1, .bool x.2.1, .int .i64 x.2.2.1.1.1, .int .i64 x.2.2.1.1.2, .int .i64 x.2.2.1.2.1, .int .i64 x.2.2.1.2.2, .slice z3a0 z3n0 z3c0, .slice z4a0 z4n0 z4c0, .slice z5a0 z5n0 z5c0, .slice z6a0 nd z6c0, .slice z7a0 np z7c0] 90)).alloc (.cells #[.bool p.1.1.1, .slice ya1 yn1 yc1, .slice ya2 yn2 yc2, .bool p.2.1.1, .slice ya4 yn4 yc4, .slice ya5 yn5 yc5] 47)) w') => (box_range (by simp) (More.un h) : w'.rangeAt w.heap.size 0 [.int .i64 x.1, .bool x.2.1, .int .i64 x.2.2.1.1.1, .int .i64 x.2.2.1.1.2, .int .i64 x.2.2.1.2.1, .int .i64 x.2.2.1.2.2, .slice z3a0 z3n0 z3c0, .slice z4a0 z4n0 z4c0, .slice z5a0 z5n0 z5c0, .slice z6a0 nd z6c0, .slice z7a0 np z7c0]))
    have HRp := Lib.hid (fun (w' : World) (h : More ((w.alloc (.cells #[.int .i64 x.1, .bool x.2.1, .int .i64 x.2.2.1.1.1, .int .i64 x.2.2.1.1.2, .int .i64 x.2.2.1.2.1, .int .i64 x.2.2.1.2.2, .slice z3a0 z3n0 z3c0, .slice z4a0 z4n0 z4c0, .slice z5a0 z5n0 z5c0, .slice z6a0 nd z6c0, .slice z7a0 np z7c0] 90)).alloc (.cells #[.bool p.1.1.1, .slice ya1 yn1 yc1, .slice ya2 yn2 yc2, .bool p.2.1.1, .slice ya4 yn4 yc4, .slice ya5 yn5 yc5] 47)) w') => (box_range (by simp) h : w'.rangeAt (w.heap.size + 1) 0 [.bool p.1.1.1, .slice ya1 yn1 yc1, .slice ya2 yn2 yc2, .bool p.2.1.1, .slice ya4 yn4 yc4, .slice ya5 yn5 yc5]))
    go_enter Tryz.func114, Tryz.ntmps114
    go_upto_region 5 with (first | (refine wpList_load_mid rfl _ _ rfl w.heap.size 0 rfl [.int .i64 x.1, .bool x.2.1, .int .i64 x.2.2.1.1.1, .int .i64 x.2.2.1.1.2, .int .i64 x.2.2.1.2.1, .int .i64 x.2.2.1.2.2, .slice z3a0 z3n0 z3c0, .slice z4a0 z4n0 z4c0, .slice z5a0 z5n0 z5c0, .slice z6a0 nd z6c0, .slice z7a0 np z7c0] _ (HRx.out _ mC) Tryz.underlying90 rfl (by kernel_rfl) ?_) | (refine wpList_load_mid rfl _ _ rfl (w.heap.size + 1) 0 rfl [.bool p.1.1.1, .slice ya1 yn1 yc1, .slice ya2 yn2 yc2, .bool p.2.1.1, .slice ya4 yn4 yc4, .slice ya5 yn5 yc5] _ (HRp.out _ mC) Tryz.underlying47 rfl (by kernel_rfl) ?_) | (go_at_call 41; (with_reducible refine (impl_CellAt [.int .i64 x.1, .bool x.2.1, .int .i64 x.2.2.1.1.1, .int .i64 x.2.2.1.1.2, .int .i64 x.2.2.1.2.1, .int .i64 x.2.2.1.2.2, .slice z3a0 z3n0 z3c0, .slice z4a0 z4n0 z4c0, .slice z5a0 z5n0 z5c0, .slice z6a0 nd z6c0, .slice z7a0 np z7c0] x [.bool p.1.1.1, .slice ya1 yn1 yc1, .slice ya2 yn2 yc2, .bool p.2.1.1, .slice ya4 yn4 yc4, .slice ya5 yn5 yc5] p _ (Ty.at_more HV0.out mC) HW0.out (Ty.at_more HV1.out mC) HW1.out).mono ?_); rintro e w1 ⟨rfl, hb1⟩; have HX1 := More.trans HX (show More _ w1 from mC); have HB1 := HB _ HX1; have hz1 := More.size HX1; (try simp at hz1); have hb1 := hb1; rw [HKC.out]) | (go_at_call 38; (with_reducible refine (impl_WallAt [.int .i64 x.1, .bool x.2.1, .int .i64 x.2.2.1.1.1, .int .i64 x.2.2.1.1.2, .int .i64 x.2.2.1.2.1, .int .i64 x.2.2.1.2.2, .slice z3a0 z3n0 z3c0, .slice z4a0 z4n0 z4c0, .slice z5a0 z5n0 z5c0, .slice z6a0 nd z6c0, .slice z7a0 np z7c0] x [.bool p.1.1.1, .slice ya1 yn1 yc1, .slice ya2 yn2 yc2, .bool p.2.1.1, .slice ya4 yn4 yc4, .slice ya5 yn5 yc5] p _ (Ty.at_more HV0.out mC) HW0.out (Ty.at_more HV1.out mC) HW1.out).mono ?_); rintro e w2 ⟨rfl, hb2⟩; have HX2 := More.trans HX (show More _ w2 from mC); have HB2 := HB _ HX2; have hz2 := More.size HX2; (try simp at hz2); have hb2 := hb2; rw [HWC.out]))
    have HXn : More ((w.alloc (.cells #[.int .i64 x.1, .bool x.2.1, .int .i64 x.2.2.1.1.1, .int .i64 x.2.2.1.1.2, .int .i64 x.2.2.1.2.1, .int .i64 x.2.2.1.2.2, .slice z3a0 z3n0 z3c0, .slice z4a0 z4n0 z4c0, .slice z5a0 z5n0 z5c0, .slice z6a0 nd z6c0, .slice z7a0 np z7c0] 90)).alloc (.cells #[.bool p.1.1.1, .slice ya1 yn1 yc1, .slice ya2 yn2 yc2, .bool p.2.1.1, .slice ya4 yn4 yc4, .slice ya5 yn5 yc5] 47)) (w2.alloc (.cells #[.int .i64 wc] 3)) := More.trans HX2 (Turns.more ((Turns.refl [] _).alloc _))
    have HZn : ((w.alloc (.cells #[.int .i64 x.1, .bool x.2.1, .int .i64 x.2.2.1.1.1, .int .i64 x.2.2.1.1.2, .int .i64 x.2.2.1.2.1, .int .i64 x.2.2.1.2.2, .slice z3a0 z3n0 z3c0, .slice z4a0 z4n0 z4c0, .slice z5a0 z5n0 z5c0, .slice z6a0 nd z6c0, .slice z7a0 np z7c0] 90)).alloc (.cells #[.bool p.1.1.1, .slice ya1 yn1 yc1, .slice ya2 yn2 yc2, .bool p.2.1.1, .slice ya4 yn4 yc4, .slice ya5 yn5 yc5] 47)).heap.size ≤ w2.heap.size := More.size HX2
    have HB' := HB
    clear HB HX
    have HB := fun (w' : World) (h : More (w2.alloc (.cells #[.int .i64 wc] 3)) w') => (⟨HB' w' (HXn.trans h), box_new rfl h 0, fun j => box_free rfl h j⟩ : (_ ∧ w'.cell? ⟨w2.heap.size, 0, none⟩ = some (.int .i64 wc) ∧ (∀ j, w'.frozen? ⟨w2.heap.size, j, none⟩ = false)))
    have HX : More (w2.alloc (.cells #[.int .i64 wc] 3)) (w2.alloc (.cells #[.int .i64 wc] 3)) := More.refl _
    have HBm := HB _ (More.refl _)
    go_wp2_with (first | (go_at_call 160; (with_reducible refine (indexFunc_cellOf _ x.2.2.2.2.2.2.1 _ w2.heap.size wc (by simp) HBm.2.1 (Ty.at_more F6.out mC) (by rw [← HND.out]; exact hld)).mono ?_); rintro e w3 ⟨rfl, hb3⟩; have HX3 := More.trans HX (show More _ w3 from mC); have HB3 := HB _ HX3; have hz3 := More.size HX3; (try simp at hz3); have hb3 := hb3; rw [HIC.out]))
    go_ret2
    exact ⟨_, rfl, mC⟩
  have hw1 : 0 ≤ wc := by omega
  rw [cofI_d HKC.out hk1 HWC.out hw1]
  rcases idxI_out hic with ⟨rfl, hno⟩ | ⟨j, d, rfl, hj, hd, hbef⟩
  · rw [doorCell_no hno]
    clear hic hno
    have HX := More.refl ((w.alloc (.cells #[.int .i64 x.1, .bool x.2.1, .int .i64 x.2.2.1.1.1, .int .i64 x.2.2.1.1.2, .int .i64 x.2.2.1.2.1, .int .i64 x.2.2.1.2.2, .slice z3a0 z3n0 z3c0, .slice z4a0 z4n0 z4c0, .slice z5a0 z5n0 z5c0, .slice z6a0 nd z6c0, .slice z7a0 np z7c0] 90)).alloc (.cells #[.bool p.1.1.1, .slice ya1 yn1 yc1, .slice ya2 yn2 yc2, .bool p.2.1.1, .slice ya4 yn4 yc4, .slice ya5 yn5 yc5] 47))
    have HB := fun (w' : World) (h : More ((w.alloc (.cells #[.int .i64 x.1, .bool x.2.1, .int .i64 x.2.2.1.1.1, .int .i64 x.2.2.1.1.2, .int .i64 x.2.2.1.2.1, .int .i64 x.2.2.1.2.2, .slice z3a0 z3n0 z3c0, .slice z4a0 z4n0 z4c0, .slice z5a0 z5n0 z5c0, .slice z6a0 nd z6c0, .slice z7a0 np z7c0] 90)).alloc (.cells #[.bool p.1.1.1, .slice ya1 yn1 yc1, .slice ya2 yn2 yc2, .bool p.2.1.1, .slice ya4 yn4 yc4, .slice ya5 yn5 yc5] 47)) w') => And.intro (bx11 (w.heap.size) (by simp) (More.un h)) (bx6 (w.heap.size + 1) (by simp) h)
    have HRx := Lib.hid (fun (w' : World) (h : More ((w.alloc (.cells #[.int .i64 x.1, .bool x.2.1, .int .i64 x.2.2.1.1.1, .int .i64 x.2.2.1.1.2, .int .i64 x.2.2.1.2.1, .int .i64 x.2.2.1.2.2, .slice z3a0 z3n0 z3c0, .slice z4a0 z4n0 z4c0, .slice z5a0 z5n0 z5c0, .slice z6a0 nd z6c0, .slice z7a0 np z7c0] 90)).alloc (.cells #[.bool p.1.1.1, .slice ya1 yn1 yc1, .slice ya2 yn2 yc2, .bool p.2.1.1, .slice ya4 yn4 yc4, .slice ya5 yn5 yc5] 47)) w') => (box_range (by simp) (More.un h) : w'.rangeAt w.heap.size 0 [.int .i64 x.1, .bool x.2.1, .int .i64 x.2.2.1.1.1, .int .i64 x.2.2.1.1.2, .int .i64 x.2.2.1.2.1, .int .i64 x.2.2.1.2.2, .slice z3a0 z3n0 z3c0, .slice z4a0 z4n0 z4c0, .slice z5a0 z5n0 z5c0, .slice z6a0 nd z6c0, .slice z7a0 np z7c0]))
    have HRp := Lib.hid (fun (w' : World) (h : More ((w.alloc (.cells #[.int .i64 x.1, .bool x.2.1, .int .i64 x.2.2.1.1.1, .int .i64 x.2.2.1.1.2, .int .i64 x.2.2.1.2.1, .int .i64 x.2.2.1.2.2, .slice z3a0 z3n0 z3c0, .slice z4a0 z4n0 z4c0, .slice z5a0 z5n0 z5c0, .slice z6a0 nd z6c0, .slice z7a0 np z7c0] 90)).alloc (.cells #[.bool p.1.1.1, .slice ya1 yn1 yc1, .slice ya2 yn2 yc2, .bool p.2.1.1, .slice ya4 yn4 yc4, .slice ya5 yn5 yc5] 47)) w') => (box_range (by simp) h : w'.rangeAt (w.heap.size + 1) 0 [.bool p.1.1.1, .slice ya1 yn1 yc1, .slice ya2 yn2 yc2, .bool p.2.1.1, .slice ya4 yn4 yc4, .slice ya5 yn5 yc5]))
    go_enter Tryz.func114, Tryz.ntmps114
    go_upto_region 5 with (first | (refine wpList_load_mid rfl _ _ rfl w.heap.size 0 rfl [.int .i64 x.1, .bool x.2.1, .int .i64 x.2.2.1.1.1, .int .i64 x.2.2.1.1.2, .int .i64 x.2.2.1.2.1, .int .i64 x.2.2.1.2.2, .slice z3a0 z3n0 z3c0, .slice z4a0 z4n0 z4c0, .slice z5a0 z5n0 z5c0, .slice z6a0 nd z6c0, .slice z7a0 np z7c0] _ (HRx.out _ mC) Tryz.underlying90 rfl (by kernel_rfl) ?_) | (refine wpList_load_mid rfl _ _ rfl (w.heap.size + 1) 0 rfl [.bool p.1.1.1, .slice ya1 yn1 yc1, .slice ya2 yn2 yc2, .bool p.2.1.1, .slice ya4 yn4 yc4, .slice ya5 yn5 yc5] _ (HRp.out _ mC) Tryz.underlying47 rfl (by kernel_rfl) ?_) | (go_at_call 41; (with_reducible refine (impl_CellAt [.int .i64 x.1, .bool x.2.1, .int .i64 x.2.2.1.1.1, .int .i64 x.2.2.1.1.2, .int .i64 x.2.2.1.2.1, .int .i64 x.2.2.1.2.2, .slice z3a0 z3n0 z3c0, .slice z4a0 z4n0 z4c0, .slice z5a0 z5n0 z5c0, .slice z6a0 nd z6c0, .slice z7a0 np z7c0] x [.bool p.1.1.1, .slice ya1 yn1 yc1, .slice ya2 yn2 yc2, .bool p.2.1.1, .slice ya4 yn4 yc4, .slice ya5 yn5 yc5] p _ (Ty.at_more HV0.out mC) HW0.out (Ty.at_more HV1.out mC) HW1.out).mono ?_); rintro e w1 ⟨rfl, hb1⟩; have HX1 := More.trans HX (show More _ w1 from mC); have HB1 := HB _ HX1; have hz1 := More.size HX1; (try simp at hz1); have hb1 := hb1; rw [HKC.out]) | (go_at_call 38; (with_reducible refine (impl_WallAt [.int .i64 x.1, .bool x.2.1, .int .i64 x.2.2.1.1.1, .int .i64 x.2.2.1.1.2, .int .i64 x.2.2.1.2.1, .int .i64 x.2.2.1.2.2, .slice z3a0 z3n0 z3c0, .slice z4a0 z4n0 z4c0, .slice z5a0 z5n0 z5c0, .slice z6a0 nd z6c0, .slice z7a0 np z7c0] x [.bool p.1.1.1, .slice ya1 yn1 yc1, .slice ya2 yn2 yc2, .bool p.2.1.1, .slice ya4 yn4 yc4, .slice ya5 yn5 yc5] p _ (Ty.at_more HV0.out mC) HW0.out (Ty.at_more HV1.out mC) HW1.out).mono ?_); rintro e w2 ⟨rfl, hb2⟩; have HX2 := More.trans HX (show More _ w2 from mC); have HB2 := HB _ HX2; have hz2 := More.size HX2; (try simp at hz2); have hb2 := hb2; rw [HWC.out]))
    have HXn : More ((w.alloc (.cells #[.int .i64 x.1, .bool x.2.1, .int .i64 x.2.2.1.1.1, .int .i64 x.2.2.1.1.2, .int .i64 x.2.2.1.2.1, .int .i64 x.2.2.1.2.2, .slice z3a0 z3n0 z3c0, .slice z4a0 z4n0 z4c0, .slice z5a0 z5n0 z5c0, .slice z6a0 nd z6c0, .slice z7a0 np z7c0] 90)).alloc (.cells #[.bool p.1.1.1, .slice ya1 yn1 yc1, .slice ya2 yn2 yc2, .bool p.2.1.1, .slice ya4 yn4 yc4, .slice ya5 yn5 yc5] 47)) (w2.alloc (.cells #[.int .i64 wc] 3)) := More.trans HX2 (Turns.more ((Turns.refl [] _).alloc _))
    have HZn : ((w.alloc (.cells #[.int .i64 x.1, .bool x.2.1, .int .i64 x.2.2.1.1.1, .int .i64 x.2.2.1.1.2, .int .i64 x.2.2.1.2.1, .int .i64 x.2.2.1.2.2, .slice z3a0 z3n0 z3c0, .slice z4a0 z4n0 z4c0, .slice z5a0 z5n0 z5c0, .slice z6a0 nd z6c0, .slice z7a0 np z7c0] 90)).alloc (.cells #[.bool p.1.1.1, .slice ya1 yn1 yc1, .slice ya2 yn2 yc2, .bool p.2.1.1, .slice ya4 yn4 yc4, .slice ya5 yn5 yc5] 47)).heap.size ≤ w2.heap.size := More.size HX2
    have HB' := HB
    clear HB HX
    have HB := fun (w' : World) (h : More (w2.alloc (.cells #[.int .i64 wc] 3)) w') => (⟨HB' w' (HXn.trans h), box_new rfl h 0, fun j => box_free rfl h j⟩ : (_ ∧ w'.cell? ⟨w2.heap.size, 0, none⟩ = some (.int .i64 wc) ∧ (∀ j, w'.frozen? ⟨w2.heap.size, j, none⟩ = false)))
    have HX : More (w2.alloc (.cells #[.int .i64 wc] 3)) (w2.alloc (.cells #[.int .i64 wc] 3)) := More.refl _
    have HBm := HB _ (More.refl _)
    go_wp2_with (first | (go_at_call 160; (with_reducible refine (indexFunc_cellOf _ x.2.2.2.2.2.2.1 _ w2.heap.size wc (by simp) HBm.2.1 (Ty.at_more F6.out mC) (by rw [← HND.out]; exact hld)).mono ?_); rintro e w3 ⟨rfl, hb3⟩; have HX3 := More.trans HX (show More _ w3 from mC); have HB3 := HB _ HX3; have hz3 := More.size HX3; (try simp at hz3); have hb3 := hb3; rw [HIC.out]))
    go_ret2
    exact ⟨_, rfl, mC⟩
  rw [doorCell_at hbef hj hd]
  have hjn : j < nd := by rw [HND.out]; exact (List.getElem?_eq_some_iff.1 hj).1
  obtain ⟨b, off, d', rfl, hblt, hj', hat, c0, c1⟩ := el_Door F6.out (k := j) (by rw [← HND.out]; exact hjn)
  obtain rfl : d' = d := by rw [hj] at hj'; cases hj'; rfl
  have HC0 := Lib.hid (fun (w' : World) (h : More w w') => ((bcell h).1 _ _ hblt).trans c0)
  clear hic hj hj' hbef hd hat c0 c1
  have hj0 : (0 : Int) ≤ (j : Int) := by omega
  have hj1 : (j : Int) < (nd : Int) := by omega
  have HX := More.refl ((w.alloc (.cells #[.int .i64 x.1, .bool x.2.1, .int .i64 x.2.2.1.1.1, .int .i64 x.2.2.1.1.2, .int .i64 x.2.2.1.2.1, .int .i64 x.2.2.1.2.2, .slice z3a0 z3n0 z3c0, .slice z4a0 z4n0 z4c0, .slice z5a0 z5n0 z5c0, .slice (some ⟨b, off, none⟩) nd z6c0, .slice z7a0 np z7c0] 90)).alloc (.cells #[.bool p.1.1.1, .slice ya1 yn1 yc1, .slice ya2 yn2 yc2, .bool p.2.1.1, .slice ya4 yn4 yc4, .slice ya5 yn5 yc5] 47))
  have HB := fun (w' : World) (h : More ((w.alloc (.cells #[.int .i64 x.1, .bool x.2.1, .int .i64 x.2.2.1.1.1, .int .i64 x.2.2.1.1.2, .int .i64 x.2.2.1.2.1, .int .i64 x.2.2.1.2.2, .slice z3a0 z3n0 z3c0, .slice z4a0 z4n0 z4c0, .slice z5a0 z5n0 z5c0, .slice (some ⟨b, off, none⟩) nd z6c0, .slice z7a0 np z7c0] 90)).alloc (.cells #[.bool p.1.1.1, .slice ya1 yn1 yc1, .slice ya2 yn2 yc2, .bool p.2.1.1, .slice ya4 yn4 yc4, .slice ya5 yn5 yc5] 47)) w') => And.intro (bx11 (w.heap.size) (by simp) (More.un h)) (bx6 (w.heap.size + 1) (by simp) h)
  have HRx := Lib.hid (fun (w' : World) (h : More ((w.alloc (.cells #[.int .i64 x.1, .bool x.2.1, .int .i64 x.2.2.1.1.1, .int .i64 x.2.2.1.1.2, .int .i64 x.2.2.1.2.1, .int .i64 x.2.2.1.2.2, .slice z3a0 z3n0 z3c0, .slice z4a0 z4n0 z4c0, .slice z5a0 z5n0 z5c0, .slice (some ⟨b, off, none⟩) nd z6c0, .slice z7a0 np z7c0] 90)).alloc (.cells #[.bool p.1.1.1, .slice ya1 yn1 yc1, .slice ya2 yn2 yc2, .bool p.2.1.1, .slice ya4 yn4 yc4, .slice ya5 yn5 yc5] 47)) w') => (box_range (by simp) (More.un h) : w'.rangeAt w.heap.size 0 [.int .i64 x.1, .bool x.2.1, .int .i64 x.2.2.1.1.1, .int .i64 x.2.2.1.1.2, .int .i64 x.2.2.1.2.1, .int .i64 x.2.2.1.2.2, .slice z3a0 z3n0 z3c0, .slice z4a0 z4n0 z4c0, .slice z5a0 z5n0 z5c0, .slice (some ⟨b, off, none⟩) nd z6c0, .slice z7a0 np z7c0]))
  have HRp := Lib.hid (fun (w' : World) (h : More ((w.alloc (.cells #[.int .i64 x.1, .bool x.2.1, .int .i64 x.2.2.1.1.1, .int .i64 x.2.2.1.1.2, .int .i64 x.2.2.1.2.1, .int .i64 x.2.2.1.2.2, .slice z3a0 z3n0 z3c0, .slice z4a0 z4n0 z4c0, .slice z5a0 z5n0 z5c0, .slice (some ⟨b, off, none⟩) nd z6c0, .slice z7a0 np z7c0] 90)).alloc (.cells #[.bool p.1.1.1, .slice ya1 yn1 yc1, .slice ya2 yn2 yc2, .bool p.2.1.1, .slice ya4 yn4 yc4, .slice ya5 yn5 yc5] 47)) w') => (box_range (by simp) h : w'.rangeAt (w.heap.size + 1) 0 [.bool p.1.1.1, .slice ya1 yn1 yc1, .slice ya2 yn2 yc2, .bool p.2.1.1, .slice ya4 yn4 yc4, .slice ya5 yn5 yc5]))
  go_enter Tryz.func114, Tryz.ntmps114
  go_upto_region 5 with (first | (refine wpList_load_mid rfl _ _ rfl w.heap.size 0 rfl [.int .i64 x.1, .bool x.2.1, .int .i64 x.2.2.1.1.1, .int .i64 x.2.2.1.1.2, .int .i64 x.2.2.1.2.1, .int .i64 x.2.2.1.2.2, .slice z3a0 z3n0 z3c0, .slice z4a0 z4n0 z4c0, .slice z5a0 z5n0 z5c0, .slice (some ⟨b, off, none⟩) nd z6c0, .slice z7a0 np z7c0] _ (HRx.out _ mC) Tryz.underlying90 rfl (by kernel_rfl) ?_) | (refine wpList_load_mid rfl _ _ rfl (w.heap.size + 1) 0 rfl [.bool p.1.1.1, .slice ya1 yn1 yc1, .slice ya2 yn2 yc2, .bool p.2.1.1, .slice ya4 yn4 yc4, .slice ya5 yn5 yc5] _ (HRp.out _ mC) Tryz.underlying47 rfl (by kernel_rfl) ?_) | (go_at_call 41; (with_reducible refine (impl_CellAt [.int .i64 x.1, .bool x.2.1, .int .i64 x.2.2.1.1.1, .int .i64 x.2.2.1.1.2, .int .i64 x.2.2.1.2.1, .int .i64 x.2.2.1.2.2, .slice z3a0 z3n0 z3c0, .slice z4a0 z4n0 z4c0, .slice z5a0 z5n0 z5c0, .slice (some ⟨b, off, none⟩) nd z6c0, .slice z7a0 np z7c0] x [.bool p.1.1.1, .slice ya1 yn1 yc1, .slice ya2 yn2 yc2, .bool p.2.1.1, .slice ya4 yn4 yc4, .slice ya5 yn5 yc5] p _ (Ty.at_more HV0.out mC) HW0.out (Ty.at_more HV1.out mC) HW1.out).mono ?_); rintro e w1 ⟨rfl, hb1⟩; have HX1 := More.trans HX (show More _ w1 from mC); have HB1 := HB _ HX1; have hz1 := More.size HX1; (try simp at hz1); have hb1 := hb1; rw [HKC.out]) | (go_at_call 38; (with_reducible refine (impl_WallAt [.int .i64 x.1, .bool x.2.1, .int .i64 x.2.2.1.1.1, .int .i64 x.2.2.1.1.2, .int .i64 x.2.2.1.2.1, .int .i64 x.2.2.1.2.2, .slice z3a0 z3n0 z3c0, .slice z4a0 z4n0 z4c0, .slice z5a0 z5n0 z5c0, .slice (some ⟨b, off, none⟩) nd z6c0, .slice z7a0 np z7c0] x [.bool p.1.1.1, .slice ya1 yn1 yc1, .slice ya2 yn2 yc2, .bool p.2.1.1, .slice ya4 yn4 yc4, .slice ya5 yn5 yc5] p _ (Ty.at_more HV0.out mC) HW0.out (Ty.at_more HV1.out mC) HW1.out).mono ?_); rintro e w2 ⟨rfl, hb2⟩; have HX2 := More.trans HX (show More _ w2 from mC); have HB2 := HB _ HX2; have hz2 := More.size HX2; (try simp at hz2); have hb2 := hb2; rw [HWC.out]))
  have HXn : More ((w.alloc (.cells #[.int .i64 x.1, .bool x.2.1, .int .i64 x.2.2.1.1.1, .int .i64 x.2.2.1.1.2, .int .i64 x.2.2.1.2.1, .int .i64 x.2.2.1.2.2, .slice z3a0 z3n0 z3c0, .slice z4a0 z4n0 z4c0, .slice z5a0 z5n0 z5c0, .slice (some ⟨b, off, none⟩) nd z6c0, .slice z7a0 np z7c0] 90)).alloc (.cells #[.bool p.1.1.1, .slice ya1 yn1 yc1, .slice ya2 yn2 yc2, .bool p.2.1.1, .slice ya4 yn4 yc4, .slice ya5 yn5 yc5] 47)) (w2.alloc (.cells #[.int .i64 wc] 3)) := More.trans HX2 (Turns.more ((Turns.refl [] _).alloc _))
  have HZn : ((w.alloc (.cells #[.int .i64 x.1, .bool x.2.1, .int .i64 x.2.2.1.1.1, .int .i64 x.2.2.1.1.2, .int .i64 x.2.2.1.2.1, .int .i64 x.2.2.1.2.2, .slice z3a0 z3n0 z3c0, .slice z4a0 z4n0 z4c0, .slice z5a0 z5n0 z5c0, .slice (some ⟨b, off, none⟩) nd z6c0, .slice z7a0 np z7c0] 90)).alloc (.cells #[.bool p.1.1.1, .slice ya1 yn1 yc1, .slice ya2 yn2 yc2, .bool p.2.1.1, .slice ya4 yn4 yc4, .slice ya5 yn5 yc5] 47)).heap.size ≤ w2.heap.size := More.size HX2
  have HB' := HB
  clear HB HX
  have HB := fun (w' : World) (h : More (w2.alloc (.cells #[.int .i64 wc] 3)) w') => (⟨HB' w' (HXn.trans h), box_new rfl h 0, fun j => box_free rfl h j⟩ : (_ ∧ w'.cell? ⟨w2.heap.size, 0, none⟩ = some (.int .i64 wc) ∧ (∀ j, w'.frozen? ⟨w2.heap.size, j, none⟩ = false)))
  have HX : More (w2.alloc (.cells #[.int .i64 wc] 3)) (w2.alloc (.cells #[.int .i64 wc] 3)) := More.refl _
  have HBm := HB _ (More.refl _)
  go_wp2_with (first | (go_at_call 160; (with_reducible refine (indexFunc_cellOf _ x.2.2.2.2.2.2.1 _ w2.heap.size wc (by simp) HBm.2.1 (Ty.at_more F6.out mC) (by rw [← HND.out]; exact hld)).mono ?_); rintro e w3 ⟨rfl, hb3⟩; have HX3 := More.trans HX (show More _ w3 from mC); have HB3 := HB _ HX3; have hz3 := More.size HX3; (try simp at hz3); have hb3 := hb3; rw [HIC.out]))
  have D0 := HC0.out w3 mC
  go_quiet (fail)
  go_wp2_with fail
  go_ret2
  exact ⟨_, rfl, mC⟩
set_option maxRecDepth 8000 in
set_option maxHeartbeats 3200000 in
theorem impl_PartAt (cs0 : List Value) (x : QSlice) (cs1 : List Value) (p : QP) (w : World) (hv0 : tSlc.at w cs0 x) (hw0 : wSlice x ≤ 1048576) (hv1 : tPoint.at w cs1 p) (hw1 : wPoint p ≤ 1048576) :
    Calls Tryz.prog 43 #[.agg cs0.toArray, .agg cs1.toArray] w fun e w' => e = .returned (.int .i64 (partI x p)) ∧ More w w' := by
  obtain ⟨k0, d0, rfl, f0, e0⟩ := at_prod hv0
  obtain ⟨k1, d1, rfl, f1, e1⟩ := at_prod e0
  obtain ⟨k2, d2, rfl, f2, e2⟩ := at_prod e1
  obtain ⟨k3, d3, rfl, f3, e3⟩ := at_prod e2
  obtain ⟨k4, d4, rfl, f4, e4⟩ := at_prod e3
  obtain ⟨k5, d5, rfl, f5, e5⟩ := at_prod e4
  obtain ⟨k6, d6, rfl, f6, e6⟩ := at_prod e5
  have f7 := e6; clear e6
  obtain rfl := sh_int f0
  have F0 := Lib.hid f0; clear f0
  obtain rfl := sh_bool f1
  have F1 := Lib.hid f1; clear f1
  obtain rfl := sh_Box f2
  have F2 := Lib.hid f2; clear f2
  obtain ⟨z3a0, z3n0, z3c0, rfl⟩ := sh_slice f3
  have F3 := Lib.hid f3; clear f3
  obtain ⟨z4a0, z4n0, z4c0, rfl⟩ := sh_slice f4
  have F4 := Lib.hid f4; clear f4
  obtain ⟨z5a0, z5n0, z5c0, rfl⟩ := sh_slice f5
  have F5 := Lib.hid f5; clear f5
  obtain ⟨z6a0, z6n0, z6c0, rfl⟩ := sh_slice f6
  have F6 := Lib.hid f6; clear f6
  obtain ⟨z7a0, z7n0, z7c0, rfl⟩ := sh_slice f7
  have F7 := Lib.hid f7; clear f7
  have HV0 : Hid (tSlc.at w [.int .i64 x.1, .bool x.2.1, .int .i64 x.2.2.1.1.1, .int .i64 x.2.2.1.1.2, .int .i64 x.2.2.1.2.1, .int .i64 x.2.2.1.2.2, .slice z3a0 z3n0 z3c0, .slice z4a0 z4n0 z4c0, .slice z5a0 z5n0 z5c0, .slice z6a0 z6n0 z6c0, .slice z7a0 z7n0 z7c0] x) := Lib.hid hv0; clear hv0
  obtain ⟨ya1, yn1, yc1, ya2, yn2, yc2, ya4, yn4, yc4, ya5, yn5, yc5, rfl⟩ := sh_Point hv1
  have HV1 := Lib.hid hv1; have HW1 := Lib.hid hw1; clear hv1 hw1
  have hld : x.2.2.2.2.2.2.1.length ≤ 1048576 := by have h := hw0; unfold wSlice wDoorS at h; omega
  have hlp : x.2.2.2.2.2.2.2.length ≤ 1048576 := by have h := hw0; unfold wSlice wIntS at h; omega
  have HW0 := Lib.hid hw0; clear hw0
  obtain ⟨nd, hnd⟩ : ∃ n, n = x.2.2.2.2.2.2.1.length := ⟨_, rfl⟩
  obtain ⟨np, hnp⟩ : ∃ n, n = x.2.2.2.2.2.2.2.length := ⟨_, rfl⟩
  obtain ⟨ao9, cap9, e9⟩ := sl_len F6.out
  simp only [Value.slice.injEq] at e9
  obtain ⟨-, e2, -⟩ := e9
  subst e2
  obtain ⟨ao8, cap8, e9⟩ := sl_len F7.out
  simp only [Value.slice.injEq] at e9
  obtain ⟨-, e2, -⟩ := e9
  subst e2
  rw [← hnd] at F6 HV0 hld ⊢
  rw [← hnp] at F7 HV0 hlp ⊢
  have HND := Lib.hid hnd; have HNP := Lib.hid hnp; clear hnd hnp
  obtain ⟨kf, hkf⟩ : ∃ c, cofI x p = c := ⟨_, rfl⟩
  have HKF := Lib.hid hkf
  show Calls Tryz.prog 43 #[.agg #[.int .i64 x.1, .bool x.2.1, .int .i64 x.2.2.1.1.1, .int .i64 x.2.2.1.1.2, .int .i64 x.2.2.1.2.1, .int .i64 x.2.2.1.2.2, .slice z3a0 z3n0 z3c0, .slice z4a0 z4n0 z4c0, .slice z5a0 z5n0 z5c0, .slice z6a0 nd z6c0, .slice z7a0 np z7c0], .agg #[.bool p.1.1.1, .slice ya1 yn1 yc1, .slice ya2 yn2 yc2, .bool p.2.1.1, .slice ya4 yn4 yc4, .slice ya5 yn5 yc5]] w _
  have g7 : IntKind.i64.wrap ((np : Int) - 1) = (np : Int) - 1 := by rw [IntKind.wrap_i64]; omega
  rcases Bool.eq_false_or_eq_true (inR kf 0 ((np : Int) - 1)) with hi | hi
  rotate_left
  · have HI := Lib.hid hi
    rw [partI_no hkf (by rw [← HNP.out]; exact hi)]
    clear hi hkf
    have HX := More.refl ((w.alloc (.cells #[.int .i64 x.1, .bool x.2.1, .int .i64 x.2.2.1.1.1, .int .i64 x.2.2.1.1.2, .int .i64 x.2.2.1.2.1, .int .i64 x.2.2.1.2.2, .slice z3a0 z3n0 z3c0, .slice z4a0 z4n0 z4c0, .slice z5a0 z5n0 z5c0, .slice z6a0 nd z6c0, .slice z7a0 np z7c0] 90)).alloc (.cells #[.bool p.1.1.1, .slice ya1 yn1 yc1, .slice ya2 yn2 yc2, .bool p.2.1.1, .slice ya4 yn4 yc4, .slice ya5 yn5 yc5] 47))
    have HB := fun (w' : World) (h : More ((w.alloc (.cells #[.int .i64 x.1, .bool x.2.1, .int .i64 x.2.2.1.1.1, .int .i64 x.2.2.1.1.2, .int .i64 x.2.2.1.2.1, .int .i64 x.2.2.1.2.2, .slice z3a0 z3n0 z3c0, .slice z4a0 z4n0 z4c0, .slice z5a0 z5n0 z5c0, .slice z6a0 nd z6c0, .slice z7a0 np z7c0] 90)).alloc (.cells #[.bool p.1.1.1, .slice ya1 yn1 yc1, .slice ya2 yn2 yc2, .bool p.2.1.1, .slice ya4 yn4 yc4, .slice ya5 yn5 yc5] 47)) w') => And.intro (bx11 (w.heap.size) (by simp) (More.un h)) (bx6 (w.heap.size + 1) (by simp) h)
    have HRx := Lib.hid (fun (w' : World) (h : More ((w.alloc (.cells #[.int .i64 x.1, .bool x.2.1, .int .i64 x.2.2.1.1.1, .int .i64 x.2.2.1.1.2, .int .i64 x.2.2.1.2.1, .int .i64 x.2.2.1.2.2, .slice z3a0 z3n0 z3c0, .slice z4a0 z4n0 z4c0, .slice z5a0 z5n0 z5c0, .slice z6a0 nd z6c0, .slice z7a0 np z7c0] 90)).alloc (.cells #[.bool p.1.1.1, .slice ya1 yn1 yc1, .slice ya2 yn2 yc2, .bool p.2.1.1, .slice ya4 yn4 yc4, .slice ya5 yn5 yc5] 47)) w') => (box_range (by simp) (More.un h) : w'.rangeAt w.heap.size 0 [.int .i64 x.1, .bool x.2.1, .int .i64 x.2.2.1.1.1, .int .i64 x.2.2.1.1.2, .int .i64 x.2.2.1.2.1, .int .i64 x.2.2.1.2.2, .slice z3a0 z3n0 z3c0, .slice z4a0 z4n0 z4c0, .slice z5a0 z5n0 z5c0, .slice z6a0 nd z6c0, .slice z7a0 np z7c0]))
    have HRp := Lib.hid (fun (w' : World) (h : More ((w.alloc (.cells #[.int .i64 x.1, .bool x.2.1, .int .i64 x.2.2.1.1.1, .int .i64 x.2.2.1.1.2, .int .i64 x.2.2.1.2.1, .int .i64 x.2.2.1.2.2, .slice z3a0 z3n0 z3c0, .slice z4a0 z4n0 z4c0, .slice z5a0 z5n0 z5c0, .slice z6a0 nd z6c0, .slice z7a0 np z7c0] 90)).alloc (.cells #[.bool p.1.1.1, .slice ya1 yn1 yc1, .slice ya2 yn2 yc2, .bool p.2.1.1, .slice ya4 yn4 yc4, .slice ya5 yn5 yc5] 47)) w') => (box_range (by simp) h : w'.rangeAt (w.heap.size + 1) 0 [.bool p.1.1.1, .slice ya1 yn1 yc1, .slice ya2 yn2 yc2, .bool p.2.1.1, .slice ya4 yn4 yc4, .slice ya5 yn5 yc5]))
    go_enter Tryz.func43, Tryz.ntmps43
    go_wp2_with (first | (refine wpList_load_mid rfl _ _ rfl w.heap.size 0 rfl [.int .i64 x.1, .bool x.2.1, .int .i64 x.2.2.1.1.1, .int .i64 x.2.2.1.1.2, .int .i64 x.2.2.1.2.1, .int .i64 x.2.2.1.2.2, .slice z3a0 z3n0 z3c0, .slice z4a0 z4n0 z4c0, .slice z5a0 z5n0 z5c0, .slice z6a0 nd z6c0, .slice z7a0 np z7c0] _ (HRx.out _ mC) Tryz.underlying90 rfl (by kernel_rfl) ?_) | (refine wpList_load_mid rfl _ _ rfl (w.heap.size + 1) 0 rfl [.bool p.1.1.1, .slice ya1 yn1 yc1, .slice ya2 yn2 yc2, .bool p.2.1.1, .slice ya4 yn4 yc4, .slice ya5 yn5 yc5] _ (HRp.out _ mC) Tryz.underlying47 rfl (by kernel_rfl) ?_) | (go_at_call 114; (with_reducible refine (impl_cellOf [.int .i64 x.1, .bool x.2.1, .int .i64 x.2.2.1.1.1, .int .i64 x.2.2.1.1.2, .int .i64 x.2.2.1.2.1, .int .i64 x.2.2.1.2.2, .slice z3a0 z3n0 z3c0, .slice z4a0 z4n0 z4c0, .slice z5a0 z5n0 z5c0, .slice z6a0 nd z6c0, .slice z7a0 np z7c0] x [.bool p.1.1.1, .slice ya1 yn1 yc1, .slice ya2 yn2 yc2, .bool p.2.1.1, .slice ya4 yn4 yc4, .slice ya5 yn5 yc5] p _ (Ty.at_more HV0.out mC) HW0.out (Ty.at_more HV1.out mC) HW1.out).mono ?_); rintro e w1 ⟨s1, rfl, hb1⟩; have HX1 := More.trans HX (show More _ w1 from mC); have HB1 := HB _ HX1; have hz1 := More.size HX1; (try simp at hz1); have hb1 := hb1; rw [HKF.out]) | (go_at_call 115; (refine (impl_within kf 0 ((np : Int) - 1) _).mono ?_); rintro e w2 ⟨rfl, hb2⟩; have HX2 := More.trans HX (show More _ w2 from mC); have HB2 := HB _ HX2; have hz2 := More.size HX2; (try simp at hz2); have hb2 := hb2; rw [HI.out]))
    go_ret
    exact ⟨rfl, mC⟩
  have HI := Lib.hid hi
  rw [inR_iff] at hi
  obtain ⟨kn, rfl⟩ : ∃ k : Nat, kf = (k : Int) := ⟨kf.toNat, by omega⟩
  have hkn : kn < np := by omega
  obtain ⟨b, off, v, rfl, hblt, hpv, ov, c0⟩ := int_el F7.out (k := kn) (by rw [← HNP.out]; exact hkn)
  rw [partI_yes hkf (by rw [← HNP.out]; exact HI.out) hpv]
  have HC0 := Lib.hid (fun (w' : World) (h : More w w') => ((bcell h).1 _ _ hblt).trans c0)
  clear hkf hpv ov c0 hi
  have hj0 : (0 : Int) ≤ (kn : Int) := by omega
  have hj1 : (kn : Int) < (np : Int) := by omega
  have HX := More.refl ((w.alloc (.cells #[.int .i64 x.1, .bool x.2.1, .int .i64 x.2.2.1.1.1, .int .i64 x.2.2.1.1.2, .int .i64 x.2.2.1.2.1, .int .i64 x.2.2.1.2.2, .slice z3a0 z3n0 z3c0, .slice z4a0 z4n0 z4c0, .slice z5a0 z5n0 z5c0, .slice z6a0 nd z6c0, .slice (some ⟨b, off, none⟩) np z7c0] 90)).alloc (.cells #[.bool p.1.1.1, .slice ya1 yn1 yc1, .slice ya2 yn2 yc2, .bool p.2.1.1, .slice ya4 yn4 yc4, .slice ya5 yn5 yc5] 47))
  have HB := fun (w' : World) (h : More ((w.alloc (.cells #[.int .i64 x.1, .bool x.2.1, .int .i64 x.2.2.1.1.1, .int .i64 x.2.2.1.1.2, .int .i64 x.2.2.1.2.1, .int .i64 x.2.2.1.2.2, .slice z3a0 z3n0 z3c0, .slice z4a0 z4n0 z4c0, .slice z5a0 z5n0 z5c0, .slice z6a0 nd z6c0, .slice (some ⟨b, off, none⟩) np z7c0] 90)).alloc (.cells #[.bool p.1.1.1, .slice ya1 yn1 yc1, .slice ya2 yn2 yc2, .bool p.2.1.1, .slice ya4 yn4 yc4, .slice ya5 yn5 yc5] 47)) w') => And.intro (bx11 (w.heap.size) (by simp) (More.un h)) (bx6 (w.heap.size + 1) (by simp) h)
  have HRx := Lib.hid (fun (w' : World) (h : More ((w.alloc (.cells #[.int .i64 x.1, .bool x.2.1, .int .i64 x.2.2.1.1.1, .int .i64 x.2.2.1.1.2, .int .i64 x.2.2.1.2.1, .int .i64 x.2.2.1.2.2, .slice z3a0 z3n0 z3c0, .slice z4a0 z4n0 z4c0, .slice z5a0 z5n0 z5c0, .slice z6a0 nd z6c0, .slice (some ⟨b, off, none⟩) np z7c0] 90)).alloc (.cells #[.bool p.1.1.1, .slice ya1 yn1 yc1, .slice ya2 yn2 yc2, .bool p.2.1.1, .slice ya4 yn4 yc4, .slice ya5 yn5 yc5] 47)) w') => (box_range (by simp) (More.un h) : w'.rangeAt w.heap.size 0 [.int .i64 x.1, .bool x.2.1, .int .i64 x.2.2.1.1.1, .int .i64 x.2.2.1.1.2, .int .i64 x.2.2.1.2.1, .int .i64 x.2.2.1.2.2, .slice z3a0 z3n0 z3c0, .slice z4a0 z4n0 z4c0, .slice z5a0 z5n0 z5c0, .slice z6a0 nd z6c0, .slice (some ⟨b, off, none⟩) np z7c0]))
  have HRp := Lib.hid (fun (w' : World) (h : More ((w.alloc (.cells #[.int .i64 x.1, .bool x.2.1, .int .i64 x.2.2.1.1.1, .int .i64 x.2.2.1.1.2, .int .i64 x.2.2.1.2.1, .int .i64 x.2.2.1.2.2, .slice z3a0 z3n0 z3c0, .slice z4a0 z4n0 z4c0, .slice z5a0 z5n0 z5c0, .slice z6a0 nd z6c0, .slice (some ⟨b, off, none⟩) np z7c0] 90)).alloc (.cells #[.bool p.1.1.1, .slice ya1 yn1 yc1, .slice ya2 yn2 yc2, .bool p.2.1.1, .slice ya4 yn4 yc4, .slice ya5 yn5 yc5] 47)) w') => (box_range (by simp) h : w'.rangeAt (w.heap.size + 1) 0 [.bool p.1.1.1, .slice ya1 yn1 yc1, .slice ya2 yn2 yc2, .bool p.2.1.1, .slice ya4 yn4 yc4, .slice ya5 yn5 yc5]))
  go_enter Tryz.func43, Tryz.ntmps43
  go_wp2_with (first | (refine wpList_load_mid rfl _ _ rfl w.heap.size 0 rfl [.int .i64 x.1, .bool x.2.1, .int .i64 x.2.2.1.1.1, .int .i64 x.2.2.1.1.2, .int .i64 x.2.2.1.2.1, .int .i64 x.2.2.1.2.2, .slice z3a0 z3n0 z3c0, .slice z4a0 z4n0 z4c0, .slice z5a0 z5n0 z5c0, .slice z6a0 nd z6c0, .slice (some ⟨b, off, none⟩) np z7c0] _ (HRx.out _ mC) Tryz.underlying90 rfl (by kernel_rfl) ?_) | (refine wpList_load_mid rfl _ _ rfl (w.heap.size + 1) 0 rfl [.bool p.1.1.1, .slice ya1 yn1 yc1, .slice ya2 yn2 yc2, .bool p.2.1.1, .slice ya4 yn4 yc4, .slice ya5 yn5 yc5] _ (HRp.out _ mC) Tryz.underlying47 rfl (by kernel_rfl) ?_) | (go_at_call 114; (with_reducible refine (impl_cellOf [.int .i64 x.1, .bool x.2.1, .int .i64 x.2.2.1.1.1, .int .i64 x.2.2.1.1.2, .int .i64 x.2.2.1.2.1, .int .i64 x.2.2.1.2.2, .slice z3a0 z3n0 z3c0, .slice z4a0 z4n0 z4c0, .slice z5a0 z5n0 z5c0, .slice z6a0 nd z6c0, .slice (some ⟨b, off, none⟩) np z7c0] x [.bool p.1.1.1, .slice ya1 yn1 yc1, .slice ya2 yn2 yc2, .bool p.2.1.1, .slice ya4 yn4 yc4, .slice ya5 yn5 yc5] p _ (Ty.at_more HV0.out mC) HW0.out (Ty.at_more HV1.out mC) HW1.out).mono ?_); rintro e w1 ⟨s1, rfl, hb1⟩; have HX1 := More.trans HX (show More _ w1 from mC); have HB1 := HB _ HX1; have hz1 := More.size HX1; (try simp at hz1); have hb1 := hb1; rw [HKF.out]) | (go_at_call 115; (refine (impl_within (kn : Int) 0 ((np : Int) - 1) _).mono ?_); rintro e w2 ⟨rfl, hb2⟩; have HX2 := More.trans HX (show More _ w2 from mC); have HB2 := HB _ HX2; have hz2 := More.size HX2; (try simp at hz2); have hb2 := hb2; rw [HI.out]; have D0 := HC0.out w2 mC))
  go_ret
  exact ⟨rfl, mC⟩
set_option maxRecDepth 8000 in
set_option maxHeartbeats 3200000 in
theorem spec_PartAt (cs0 : List Value) (x : QSlice) (cs1 : List Value) (p : QP) (w : World) (hv0 : tSlc.at w cs0 x) (hw0 : wSlice x ≤ 1048576) (hv1 : tPoint.at w cs1 p) (hw1 : wPoint p ≤ 1048576) :
    Calls Tryz.prog 42 #[.agg cs0.toArray, .agg cs1.toArray] w fun e w' => e = .returned (.int .i64 (partI x p)) ∧ More w w' := by
  obtain ⟨k0, d0, rfl, f0, e0⟩ := at_prod hv0
  obtain ⟨k1, d1, rfl, f1, e1⟩ := at_prod e0
  obtain ⟨k2, d2, rfl, f2, e2⟩ := at_prod e1
  obtain ⟨k3, d3, rfl, f3, e3⟩ := at_prod e2
  obtain ⟨k4, d4, rfl, f4, e4⟩ := at_prod e3
  obtain ⟨k5, d5, rfl, f5, e5⟩ := at_prod e4
  obtain ⟨k6, d6, rfl, f6, e6⟩ := at_prod e5
  have f7 := e6; clear e6
  obtain rfl := sh_int f0
  have F0 := Lib.hid f0; clear f0
  obtain rfl := sh_bool f1
  have F1 := Lib.hid f1; clear f1
  obtain rfl := sh_Box f2
  have F2 := Lib.hid f2; clear f2
  obtain ⟨z3a0, z3n0, z3c0, rfl⟩ := sh_slice f3
  have F3 := Lib.hid f3; clear f3
  obtain ⟨z4a0, z4n0, z4c0, rfl⟩ := sh_slice f4
  have F4 := Lib.hid f4; clear f4
  obtain ⟨z5a0, z5n0, z5c0, rfl⟩ := sh_slice f5
  have F5 := Lib.hid f5; clear f5
  obtain ⟨z6a0, z6n0, z6c0, rfl⟩ := sh_slice f6
  have F6 := Lib.hid f6; clear f6
  obtain ⟨z7a0, z7n0, z7c0, rfl⟩ := sh_slice f7
  have F7 := Lib.hid f7; clear f7
  have HV0 : Hid (tSlc.at w [.int .i64 x.1, .bool x.2.1, .int .i64 x.2.2.1.1.1, .int .i64 x.2.2.1.1.2, .int .i64 x.2.2.1.2.1, .int .i64 x.2.2.1.2.2, .slice z3a0 z3n0 z3c0, .slice z4a0 z4n0 z4c0, .slice z5a0 z5n0 z5c0, .slice z6a0 z6n0 z6c0, .slice z7a0 z7n0 z7c0] x) := Lib.hid hv0; clear hv0
  obtain ⟨ya1, yn1, yc1, ya2, yn2, yc2, ya4, yn4, yc4, ya5, yn5, yc5, rfl⟩ := sh_Point hv1
  have HV1 := Lib.hid hv1; have HW1 := Lib.hid hw1; clear hv1 hw1
  have hld : x.2.2.2.2.2.2.1.length ≤ 1048576 := by have h := hw0; unfold wSlice wDoorS at h; omega
  have hlp : x.2.2.2.2.2.2.2.length ≤ 1048576 := by have h := hw0; unfold wSlice wIntS at h; omega
  have HW0 := Lib.hid hw0; clear hw0
  obtain ⟨nd, hnd⟩ : ∃ n, n = x.2.2.2.2.2.2.1.length := ⟨_, rfl⟩
  obtain ⟨np, hnp⟩ : ∃ n, n = x.2.2.2.2.2.2.2.length := ⟨_, rfl⟩
  obtain ⟨ao9, cap9, e9⟩ := sl_len F6.out
  simp only [Value.slice.injEq] at e9
  obtain ⟨-, e2, -⟩ := e9
  subst e2
  obtain ⟨ao8, cap8, e9⟩ := sl_len F7.out
  simp only [Value.slice.injEq] at e9
  obtain ⟨-, e2, -⟩ := e9
  subst e2
  rw [← hnd] at F6 HV0 hld ⊢
  rw [← hnp] at F7 HV0 hlp ⊢
  have HND := Lib.hid hnd; have HNP := Lib.hid hnp; clear hnd hnp
  obtain ⟨kc, hkc⟩ : ∃ c, idxI (catP p) x.2.2.2.2.1 = c := ⟨_, rfl⟩
  obtain ⟨wc, hwc⟩ : ∃ c, idxI (watP p) x.2.2.2.2.2.1 = c := ⟨_, rfl⟩
  have HKC := Lib.hid hkc; have HWC := Lib.hid hwc; clear hkc hwc
  obtain ⟨kf, hkf⟩ : ∃ c, cofI x p = c := ⟨_, rfl⟩
  have HKF := Lib.hid hkf
  have g7 : IntKind.i64.wrap ((np : Int) - 1) = (np : Int) - 1 := by rw [IntKind.wrap_i64]; omega
  show Calls Tryz.prog 42 #[.agg #[.int .i64 x.1, .bool x.2.1, .int .i64 x.2.2.1.1.1, .int .i64 x.2.2.1.1.2, .int .i64 x.2.2.1.2.1, .int .i64 x.2.2.1.2.2, .slice z3a0 z3n0 z3c0, .slice z4a0 z4n0 z4c0, .slice z5a0 z5n0 z5c0, .slice z6a0 nd z6c0, .slice z7a0 np z7c0], .agg #[.bool p.1.1.1, .slice ya1 yn1 yc1, .slice ya2 yn2 yc2, .bool p.2.1.1, .slice ya4 yn4 yc4, .slice ya5 yn5 yc5]] w _
  by_cases hcond : kc < 0 ∧ 0 ≤ wc
  rotate_left
  · skip
    have hEQ : cofI x p = kc := by
      rcases idxI_out HKC.out with ⟨h1, _⟩ | ⟨j, _, h1, _⟩
      · rw [cofI_w HKC.out (by omega) HWC.out (by omega)]; exact h1.symm
      · exact cofI_c HKC.out (by omega)
    have HEQ0 := Lib.hid hEQ; clear hEQ hkf
    have HX := More.refl ((w.alloc (.cells #[.int .i64 x.1, .bool x.2.1, .int .i64 x.2.2.1.1.1, .int .i64 x.2.2.1.1.2, .int .i64 x.2.2.1.2.1, .int .i64 x.2.2.1.2.2, .slice z3a0 z3n0 z3c0, .slice z4a0 z4n0 z4c0, .slice z5a0 z5n0 z5c0, .slice z6a0 nd z6c0, .slice z7a0 np z7c0] 90)).alloc (.cells #[.bool p.1.1.1, .slice ya1 yn1 yc1, .slice ya2 yn2 yc2, .bool p.2.1.1, .slice ya4 yn4 yc4, .slice ya5 yn5 yc5] 47))
    have HB := fun (w' : World) (h : More ((w.alloc (.cells #[.int .i64 x.1, .bool x.2.1, .int .i64 x.2.2.1.1.1, .int .i64 x.2.2.1.1.2, .int .i64 x.2.2.1.2.1, .int .i64 x.2.2.1.2.2, .slice z3a0 z3n0 z3c0, .slice z4a0 z4n0 z4c0, .slice z5a0 z5n0 z5c0, .slice z6a0 nd z6c0, .slice z7a0 np z7c0] 90)).alloc (.cells #[.bool p.1.1.1, .slice ya1 yn1 yc1, .slice ya2 yn2 yc2, .bool p.2.1.1, .slice ya4 yn4 yc4, .slice ya5 yn5 yc5] 47)) w') => And.intro (bx11 (w.heap.size) (by simp) (More.un h)) (bx6 (w.heap.size + 1) (by simp) h)
    have HRx := Lib.hid (fun (w' : World) (h : More ((w.alloc (.cells #[.int .i64 x.1, .bool x.2.1, .int .i64 x.2.2.1.1.1, .int .i64 x.2.2.1.1.2, .int .i64 x.2.2.1.2.1, .int .i64 x.2.2.1.2.2, .slice z3a0 z3n0 z3c0, .slice z4a0 z4n0 z4c0, .slice z5a0 z5n0 z5c0, .slice z6a0 nd z6c0, .slice z7a0 np z7c0] 90)).alloc (.cells #[.bool p.1.1.1, .slice ya1 yn1 yc1, .slice ya2 yn2 yc2, .bool p.2.1.1, .slice ya4 yn4 yc4, .slice ya5 yn5 yc5] 47)) w') => (box_range (by simp) (More.un h) : w'.rangeAt w.heap.size 0 [.int .i64 x.1, .bool x.2.1, .int .i64 x.2.2.1.1.1, .int .i64 x.2.2.1.1.2, .int .i64 x.2.2.1.2.1, .int .i64 x.2.2.1.2.2, .slice z3a0 z3n0 z3c0, .slice z4a0 z4n0 z4c0, .slice z5a0 z5n0 z5c0, .slice z6a0 nd z6c0, .slice z7a0 np z7c0]))
    have HRp := Lib.hid (fun (w' : World) (h : More ((w.alloc (.cells #[.int .i64 x.1, .bool x.2.1, .int .i64 x.2.2.1.1.1, .int .i64 x.2.2.1.1.2, .int .i64 x.2.2.1.2.1, .int .i64 x.2.2.1.2.2, .slice z3a0 z3n0 z3c0, .slice z4a0 z4n0 z4c0, .slice z5a0 z5n0 z5c0, .slice z6a0 nd z6c0, .slice z7a0 np z7c0] 90)).alloc (.cells #[.bool p.1.1.1, .slice ya1 yn1 yc1, .slice ya2 yn2 yc2, .bool p.2.1.1, .slice ya4 yn4 yc4, .slice ya5 yn5 yc5] 47)) w') => (box_range (by simp) h : w'.rangeAt (w.heap.size + 1) 0 [.bool p.1.1.1, .slice ya1 yn1 yc1, .slice ya2 yn2 yc2, .bool p.2.1.1, .slice ya4 yn4 yc4, .slice ya5 yn5 yc5]))
    go_enter Tryz.func42, Tryz.ntmps42
    go_wp2_with (first | (refine wpList_load_mid rfl _ _ rfl w.heap.size 0 rfl [.int .i64 x.1, .bool x.2.1, .int .i64 x.2.2.1.1.1, .int .i64 x.2.2.1.1.2, .int .i64 x.2.2.1.2.1, .int .i64 x.2.2.1.2.2, .slice z3a0 z3n0 z3c0, .slice z4a0 z4n0 z4c0, .slice z5a0 z5n0 z5c0, .slice z6a0 nd z6c0, .slice z7a0 np z7c0] _ (HRx.out _ mC) Tryz.underlying90 rfl (by kernel_rfl) ?_) | (refine wpList_load_mid rfl _ _ rfl (w.heap.size + 1) 0 rfl [.bool p.1.1.1, .slice ya1 yn1 yc1, .slice ya2 yn2 yc2, .bool p.2.1.1, .slice ya4 yn4 yc4, .slice ya5 yn5 yc5] _ (HRp.out _ mC) Tryz.underlying47 rfl (by kernel_rfl) ?_) | (go_at_call 40; (with_reducible refine (spec_CellAt [.int .i64 x.1, .bool x.2.1, .int .i64 x.2.2.1.1.1, .int .i64 x.2.2.1.1.2, .int .i64 x.2.2.1.2.1, .int .i64 x.2.2.1.2.2, .slice z3a0 z3n0 z3c0, .slice z4a0 z4n0 z4c0, .slice z5a0 z5n0 z5c0, .slice z6a0 nd z6c0, .slice z7a0 np z7c0] x [.bool p.1.1.1, .slice ya1 yn1 yc1, .slice ya2 yn2 yc2, .bool p.2.1.1, .slice ya4 yn4 yc4, .slice ya5 yn5 yc5] p _ (Ty.at_more HV0.out mC) HW0.out (Ty.at_more HV1.out mC) HW1.out).mono ?_); rintro e w1 ⟨rfl, hb1⟩; have HX1 := More.trans HX (show More _ w1 from mC); have HB1 := HB _ HX1; have hz1 := More.size HX1; (try simp at hz1); have hb1 := hb1; rw [HKC.out]) | (go_at_call 36; (with_reducible refine (spec_WallAt [.int .i64 x.1, .bool x.2.1, .int .i64 x.2.2.1.1.1, .int .i64 x.2.2.1.1.2, .int .i64 x.2.2.1.2.1, .int .i64 x.2.2.1.2.2, .slice z3a0 z3n0 z3c0, .slice z4a0 z4n0 z4c0, .slice z5a0 z5n0 z5c0, .slice z6a0 nd z6c0, .slice z7a0 np z7c0] x [.bool p.1.1.1, .slice ya1 yn1 yc1, .slice ya2 yn2 yc2, .bool p.2.1.1, .slice ya4 yn4 yc4, .slice ya5 yn5 yc5] p _ (Ty.at_more HV0.out mC) HW0.out (Ty.at_more HV1.out mC) HW1.out).mono ?_); rintro e w2 ⟨rfl, hb2⟩; have HX2 := More.trans HX (show More _ w2 from mC); have HB2 := HB _ HX2; have hz2 := More.size HX2; (try simp at hz2); have hb2 := hb2; rw [HWC.out]))
    go_loopw [5, 18] (fun kk i wr => ∃ k : Nat, k ≤ nd ∧ i = .int .i64 k ∧ kk = .int .i64 kc ∧ More ((w.alloc (.cells #[.int .i64 x.1, .bool x.2.1, .int .i64 x.2.2.1.1.1, .int .i64 x.2.2.1.1.2, .int .i64 x.2.2.1.2.1, .int .i64 x.2.2.1.2.2, .slice z3a0 z3n0 z3c0, .slice z4a0 z4n0 z4c0, .slice z5a0 z5n0 z5c0, .slice z6a0 nd z6c0, .slice z7a0 np z7c0] 90)).alloc (.cells #[.bool p.1.1.1, .slice ya1 yn1 yc1, .slice ya2 yn2 yc2, .bool p.2.1.1, .slice ya4 yn4 yc4, .slice ya5 yn5 yc5] 47)) wr ∧ Hid (∀ (i : Nat) y, i < k → x.2.2.2.2.2.2.1[i]? = some y → True)) (fun _ i _ => nd - (intOf i).toNat)
    case atStart => exact ⟨0, Nat.zero_le _, rfl, rfl, mC, Lib.hid (fun i y hi => by omega)⟩
    case round =>
      obtain ⟨k, hk, rfl, rfl, hm, HB0⟩ := hrel
      have HBw := HB _ hm
      have hMw : More w wr := More.trans mC hm
      have HMw := Lib.hid hMw; have HMx := Lib.hid hm
      have hwr : w.heap.size < wr.heap.size := by have := hm.size; simp at this; omega
      have hwr2 : w.heap.size + 1 < wr.heap.size := by have := hm.size; simp at this; omega
      by_cases hlt : k < nd
      · obtain ⟨b, off, y, ea, hblt, hx, hat, c0, c1⟩ := el_Door (Ty.at_more F6.out hMw) (k := k) (by rw [← HND.out]; exact hlt)
        subst ea
        have HX := Lib.hid hx; clear hx hat hMw
        have hlt' : (k : Int) < (nd : Int) := by omega
        by_cases hk0 : kc < 0
        · have hw0 : ¬ 0 ≤ wc := by omega
          go_wp2_with fail
          go_roundw
          case rel => exact ⟨k + 1, by omega, by go_num, rfl, hm.trans mC, Lib.hid (fun i z hi hz => trivial)⟩
          case measure => simp [intOf]; omega
        · skip
          go_wp2_with fail
          go_roundw
          case rel => exact ⟨k + 1, by omega, by go_num, rfl, hm.trans mC, Lib.hid (fun i z hi hz => trivial)⟩
          case measure => simp [intOf]; omega
      · clear hMw
        have hge : ¬ (k : Int) < (nd : Int) := by omega
        have HEQ : Hid (cofI x p = kc) := Lib.hid HEQ0.out
        go_wp2_with fail
        refine (spec_l01In kc 0 ((np : Int) - 1) _).mono ?_
        rintro e w9 ⟨rfl, hb9⟩
        have HBn := HB _ (HMx.out.trans (show More wr w9 from mC))
        rcases Bool.eq_false_or_eq_true (inR kc 0 ((np : Int) - 1)) with hi | hi
        rotate_left
        · have HI := Lib.hid hi; clear hi
          rw [HI.out]
          go_wp2_with fail
          go_ret
          exact ⟨ret_int (partI_no HEQ.out (by rw [← HNP.out]; exact HI.out)).symm, HMw.out.trans mC⟩
        · have HI := Lib.hid hi
          rw [inR_iff] at hi
          rw [HI.out]
          obtain ⟨kn, hkn'⟩ : ∃ k : Nat, kc = (k : Int) := ⟨(kc).toNat, by omega⟩
          rw [hkn'] at HI HEQ hi ⊢
          have hkn : kn < np := by omega
          obtain ⟨b', off', v, ea, hblt', hpv, ov, c0'⟩ := int_el F7.out (k := kn) (by rw [← HNP.out]; exact hkn)
          subst ea
          have D0 := ((bcell (show More w w9 from HMw.out.trans mC)).1 _ _ hblt').trans c0'
          have HPV := Lib.hid hpv
          clear hpv ov c0' hi hkn'
          have hj0 : (0 : Int) ≤ (kn : Int) := by omega
          have hj1 : (kn : Int) < (np : Int) := by omega
          go_wp2_with fail
          go_ret
          exact ⟨ret_int (partI_yes HEQ.out (by rw [← HNP.out]; exact HI.out) HPV.out).symm, HMw.out.trans mC⟩
  obtain ⟨hk0, hw0⟩ := hcond
  have hk9 : kc = -1 := by
    rcases idxI_out HKC.out with ⟨h1, _⟩ | ⟨j, _, h1, _⟩
    · exact h1
    · omega
  have hEQ := cofI_d HKC.out hk0 HWC.out hw0
  have HEQ0 := Lib.hid hEQ; have HK9 := Lib.hid hk9; clear hEQ hkf hk9
  have HX := More.refl ((w.alloc (.cells #[.int .i64 x.1, .bool x.2.1, .int .i64 x.2.2.1.1.1, .int .i64 x.2.2.1.1.2, .int .i64 x.2.2.1.2.1, .int .i64 x.2.2.1.2.2, .slice z3a0 z3n0 z3c0, .slice z4a0 z4n0 z4c0, .slice z5a0 z5n0 z5c0, .slice z6a0 nd z6c0, .slice z7a0 np z7c0] 90)).alloc (.cells #[.bool p.1.1.1, .slice ya1 yn1 yc1, .slice ya2 yn2 yc2, .bool p.2.1.1, .slice ya4 yn4 yc4, .slice ya5 yn5 yc5] 47))
  have HB := fun (w' : World) (h : More ((w.alloc (.cells #[.int .i64 x.1, .bool x.2.1, .int .i64 x.2.2.1.1.1, .int .i64 x.2.2.1.1.2, .int .i64 x.2.2.1.2.1, .int .i64 x.2.2.1.2.2, .slice z3a0 z3n0 z3c0, .slice z4a0 z4n0 z4c0, .slice z5a0 z5n0 z5c0, .slice z6a0 nd z6c0, .slice z7a0 np z7c0] 90)).alloc (.cells #[.bool p.1.1.1, .slice ya1 yn1 yc1, .slice ya2 yn2 yc2, .bool p.2.1.1, .slice ya4 yn4 yc4, .slice ya5 yn5 yc5] 47)) w') => And.intro (bx11 (w.heap.size) (by simp) (More.un h)) (bx6 (w.heap.size + 1) (by simp) h)
  have HRx := Lib.hid (fun (w' : World) (h : More ((w.alloc (.cells #[.int .i64 x.1, .bool x.2.1, .int .i64 x.2.2.1.1.1, .int .i64 x.2.2.1.1.2, .int .i64 x.2.2.1.2.1, .int .i64 x.2.2.1.2.2, .slice z3a0 z3n0 z3c0, .slice z4a0 z4n0 z4c0, .slice z5a0 z5n0 z5c0, .slice z6a0 nd z6c0, .slice z7a0 np z7c0] 90)).alloc (.cells #[.bool p.1.1.1, .slice ya1 yn1 yc1, .slice ya2 yn2 yc2, .bool p.2.1.1, .slice ya4 yn4 yc4, .slice ya5 yn5 yc5] 47)) w') => (box_range (by simp) (More.un h) : w'.rangeAt w.heap.size 0 [.int .i64 x.1, .bool x.2.1, .int .i64 x.2.2.1.1.1, .int .i64 x.2.2.1.1.2, .int .i64 x.2.2.1.2.1, .int .i64 x.2.2.1.2.2, .slice z3a0 z3n0 z3c0, .slice z4a0 z4n0 z4c0, .slice z5a0 z5n0 z5c0, .slice z6a0 nd z6c0, .slice z7a0 np z7c0]))
  have HRp := Lib.hid (fun (w' : World) (h : More ((w.alloc (.cells #[.int .i64 x.1, .bool x.2.1, .int .i64 x.2.2.1.1.1, .int .i64 x.2.2.1.1.2, .int .i64 x.2.2.1.2.1, .int .i64 x.2.2.1.2.2, .slice z3a0 z3n0 z3c0, .slice z4a0 z4n0 z4c0, .slice z5a0 z5n0 z5c0, .slice z6a0 nd z6c0, .slice z7a0 np z7c0] 90)).alloc (.cells #[.bool p.1.1.1, .slice ya1 yn1 yc1, .slice ya2 yn2 yc2, .bool p.2.1.1, .slice ya4 yn4 yc4, .slice ya5 yn5 yc5] 47)) w') => (box_range (by simp) h : w'.rangeAt (w.heap.size + 1) 0 [.bool p.1.1.1, .slice ya1 yn1 yc1, .slice ya2 yn2 yc2, .bool p.2.1.1, .slice ya4 yn4 yc4, .slice ya5 yn5 yc5]))
  go_enter Tryz.func42, Tryz.ntmps42
  go_wp2_with (first | (refine wpList_load_mid rfl _ _ rfl w.heap.size 0 rfl [.int .i64 x.1, .bool x.2.1, .int .i64 x.2.2.1.1.1, .int .i64 x.2.2.1.1.2, .int .i64 x.2.2.1.2.1, .int .i64 x.2.2.1.2.2, .slice z3a0 z3n0 z3c0, .slice z4a0 z4n0 z4c0, .slice z5a0 z5n0 z5c0, .slice z6a0 nd z6c0, .slice z7a0 np z7c0] _ (HRx.out _ mC) Tryz.underlying90 rfl (by kernel_rfl) ?_) | (refine wpList_load_mid rfl _ _ rfl (w.heap.size + 1) 0 rfl [.bool p.1.1.1, .slice ya1 yn1 yc1, .slice ya2 yn2 yc2, .bool p.2.1.1, .slice ya4 yn4 yc4, .slice ya5 yn5 yc5] _ (HRp.out _ mC) Tryz.underlying47 rfl (by kernel_rfl) ?_) | (go_at_call 40; (with_reducible refine (spec_CellAt [.int .i64 x.1, .bool x.2.1, .int .i64 x.2.2.1.1.1, .int .i64 x.2.2.1.1.2, .int .i64 x.2.2.1.2.1, .int .i64 x.2.2.1.2.2, .slice z3a0 z3n0 z3c0, .slice z4a0 z4n0 z4c0, .slice z5a0 z5n0 z5c0, .slice z6a0 nd z6c0, .slice z7a0 np z7c0] x [.bool p.1.1.1, .slice ya1 yn1 yc1, .slice ya2 yn2 yc2, .bool p.2.1.1, .slice ya4 yn4 yc4, .slice ya5 yn5 yc5] p _ (Ty.at_more HV0.out mC) HW0.out (Ty.at_more HV1.out mC) HW1.out).mono ?_); rintro e w1 ⟨rfl, hb1⟩; have HX1 := More.trans HX (show More _ w1 from mC); have HB1 := HB _ HX1; have hz1 := More.size HX1; (try simp at hz1); have hb1 := hb1; rw [HKC.out]) | (go_at_call 36; (with_reducible refine (spec_WallAt [.int .i64 x.1, .bool x.2.1, .int .i64 x.2.2.1.1.1, .int .i64 x.2.2.1.1.2, .int .i64 x.2.2.1.2.1, .int .i64 x.2.2.1.2.2, .slice z3a0 z3n0 z3c0, .slice z4a0 z4n0 z4c0, .slice z5a0 z5n0 z5c0, .slice z6a0 nd z6c0, .slice z7a0 np z7c0] x [.bool p.1.1.1, .slice ya1 yn1 yc1, .slice ya2 yn2 yc2, .bool p.2.1.1, .slice ya4 yn4 yc4, .slice ya5 yn5 yc5] p _ (Ty.at_more HV0.out mC) HW0.out (Ty.at_more HV1.out mC) HW1.out).mono ?_); rintro e w2 ⟨rfl, hb2⟩; have HX2 := More.trans HX (show More _ w2 from mC); have HB2 := HB _ HX2; have hz2 := More.size HX2; (try simp at hz2); have hb2 := hb2; rw [HWC.out]))
  go_loopw [5, 18] (fun kk i wr => ∃ k : Nat, k ≤ nd ∧ i = .int .i64 k ∧ kk = .int .i64 kc ∧ More ((w.alloc (.cells #[.int .i64 x.1, .bool x.2.1, .int .i64 x.2.2.1.1.1, .int .i64 x.2.2.1.1.2, .int .i64 x.2.2.1.2.1, .int .i64 x.2.2.1.2.2, .slice z3a0 z3n0 z3c0, .slice z4a0 z4n0 z4c0, .slice z5a0 z5n0 z5c0, .slice z6a0 nd z6c0, .slice z7a0 np z7c0] 90)).alloc (.cells #[.bool p.1.1.1, .slice ya1 yn1 yc1, .slice ya2 yn2 yc2, .bool p.2.1.1, .slice ya4 yn4 yc4, .slice ya5 yn5 yc5] 47)) wr ∧ Hid (∀ (i : Nat) y, i < k → x.2.2.2.2.2.2.1[i]? = some y → doorP wc y = false)) (fun _ i _ => nd - (intOf i).toNat)
  case atStart => exact ⟨0, Nat.zero_le _, rfl, rfl, mC, Lib.hid (fun i y hi => by omega)⟩
  case round =>
    obtain ⟨k, hk, rfl, rfl, hm, HB0⟩ := hrel
    have HBw := HB _ hm
    have hMw : More w wr := More.trans mC hm
    have HMw := Lib.hid hMw; have HMx := Lib.hid hm
    have hwr : w.heap.size < wr.heap.size := by have := hm.size; simp at this; omega
    have hwr2 : w.heap.size + 1 < wr.heap.size := by have := hm.size; simp at this; omega
    by_cases hlt : k < nd
    · obtain ⟨b, off, y, ea, hblt, hx, hat, c0, c1⟩ := el_Door (Ty.at_more F6.out hMw) (k := k) (by rw [← HND.out]; exact hlt)
      subst ea
      have HX := Lib.hid hx; clear hx hat hMw
      have hlt' : (k : Int) < (nd : Int) := by omega
      rcases Bool.eq_false_or_eq_true (doorP wc y) with hd | hd
      rotate_left
      · have hd2 : (y.2 == wc) = false := by unfold doorP at hd; simpa using hd
        have HD := Lib.hid hd; clear hd
        go_wp2_with fail
        go_roundw
        case rel => exact ⟨k + 1, by omega, by go_num, rfl, hm.trans mC, Lib.hid (fun i z hi hz => by rcases Nat.lt_succ_iff_lt_or_eq.1 hi with h | rfl; exact HB0.out i z h hz; rw [HX.out] at hz; cases hz; exact HD.out)⟩
        case measure => simp [intOf]; omega
      · have hd2 : (y.2 == wc) = true := by unfold doorP at hd; simpa using hd
        have HD := Lib.hid hd; clear hd
        have HEQ : Hid (cofI x p = y.1) := Lib.hid (by rw [HEQ0.out]; exact doorCell_at HB0.out HX.out HD.out)
        go_wp2_with fail
        refine (spec_l01In y.1 0 ((np : Int) - 1) _).mono ?_
        rintro e w9 ⟨rfl, hb9⟩
        have HBn := HB _ (HMx.out.trans (show More wr w9 from mC))
        rcases Bool.eq_false_or_eq_true (inR y.1 0 ((np : Int) - 1)) with hi | hi
        rotate_left
        · have HI := Lib.hid hi; clear hi
          rw [HI.out]
          go_wp2_with fail
          go_ret
          exact ⟨ret_int (partI_no HEQ.out (by rw [← HNP.out]; exact HI.out)).symm, HMw.out.trans mC⟩
        · have HI := Lib.hid hi
          rw [inR_iff] at hi
          rw [HI.out]
          obtain ⟨kn, hkn'⟩ : ∃ k : Nat, y.1 = (k : Int) := ⟨(y.1).toNat, by omega⟩
          rw [hkn'] at HI HEQ hi ⊢
          have hkn : kn < np := by omega
          obtain ⟨b', off', v, ea, hblt', hpv, ov, c0'⟩ := int_el F7.out (k := kn) (by rw [← HNP.out]; exact hkn)
          subst ea
          have D0 := ((bcell (show More w w9 from HMw.out.trans mC)).1 _ _ hblt').trans c0'
          have HPV := Lib.hid hpv
          clear hpv ov c0' hi hkn'
          have hj0 : (0 : Int) ≤ (kn : Int) := by omega
          have hj1 : (kn : Int) < (np : Int) := by omega
          go_wp2_with fail
          go_ret
          exact ⟨ret_int (partI_yes HEQ.out (by rw [← HNP.out]; exact HI.out) HPV.out).symm, HMw.out.trans mC⟩
    · clear hMw
      have hge : ¬ (k : Int) < (nd : Int) := by omega
      have HEQ : Hid (cofI x p = kc) := Lib.hid (by rw [HEQ0.out, HK9.out]; exact doorCell_no (fun i z hz => HB0.out i z (by have := (List.getElem?_eq_some_iff.1 hz).1; have := HND.out; omega) hz))
      go_wp2_with fail
      refine (spec_l01In kc 0 ((np : Int) - 1) _).mono ?_
      rintro e w9 ⟨rfl, hb9⟩
      have HBn := HB _ (HMx.out.trans (show More wr w9 from mC))
      rcases Bool.eq_false_or_eq_true (inR kc 0 ((np : Int) - 1)) with hi | hi
      rotate_left
      · have HI := Lib.hid hi; clear hi
        rw [HI.out]
        go_wp2_with fail
        go_ret
        exact ⟨ret_int (partI_no HEQ.out (by rw [← HNP.out]; exact HI.out)).symm, HMw.out.trans mC⟩
      · have HI := Lib.hid hi
        rw [inR_iff] at hi
        rw [HI.out]
        obtain ⟨kn, hkn'⟩ : ∃ k : Nat, kc = (k : Int) := ⟨(kc).toNat, by omega⟩
        rw [hkn'] at HI HEQ hi ⊢
        have hkn : kn < np := by omega
        obtain ⟨b', off', v, ea, hblt', hpv, ov, c0'⟩ := int_el F7.out (k := kn) (by rw [← HNP.out]; exact hkn)
        subst ea
        have D0 := ((bcell (show More w w9 from HMw.out.trans mC)).1 _ _ hblt').trans c0'
        have HPV := Lib.hid hpv
        clear hpv ov c0' hi hkn'
        have hj0 : (0 : Int) ≤ (kn : Int) := by omega
        have hj1 : (kn : Int) < (np : Int) := by omega
        go_wp2_with fail
        go_ret
        exact ⟨ret_int (partI_yes HEQ.out (by rw [← HNP.out]; exact HI.out) HPV.out).symm, HMw.out.trans mC⟩
end Go.Proofs.YteihkhniibncnaaGreat
