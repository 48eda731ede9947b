/- WallAt: the first wall of a slice in which a point lies. -/
import Derived.Test.YteihkhniibncnaaGreatInw
import Derived.Test.YteihkhniibncnaaGreatLdm
namespace Go.Proofs.YteihkhniibncnaaGreat
open Go.RowKit
noncomputable def watP (p : QP) (x : QWall) : Bool := InWallB x p
set_option maxRecDepth 4000 in
set_option maxHeartbeats 1600000 in
theorem impl_WallAt_1 (bx : Nat) (cp c : List Value) (x : QWall) (p : QP) (w : World) (hx : tWall.at w c x) (hwx : wWall x ≤ 1048576) (hp : tPoint.at w cp p) (hwp : wPoint p ≤ 1048576) (hb : bx < w.heap.size) (hq : w.rangeAt bx 0 cp) :
    Calls Tryz.prog 102 #[.agg c.toArray, .pointer (some ⟨bx, 0, none⟩)] w fun e w' => e = .returned (.bool (watP p x)) ∧ More w w' := by
  have hl : c.length = 9 := tWall.len hx
  have hm : cp.length = 6 := tPoint.len hp
  have HL := Lib.hid hl; have HM := Lib.hid hm; have HX := Lib.hid hx; have HP := Lib.hid hp; have HWx := Lib.hid hwx; have HWp := Lib.hid hwp; clear hl hm hx hp hwx hwp
  have HRc := Lib.hid (fun (w' : World) (h : More (w.alloc (.cells c.toArray 50)) w') => (box_range rfl h : w'.rangeAt w.heap.size 0 c))
  have HRp := Lib.hid (fun (w' : World) (h : More w w') => range_keep h hb hq)
  clear hq
  go_enter Tryz.func102, Tryz.ntmps102
  go_wp2_with (first | (refine wpList_load_mid rfl _ _ rfl w.heap.size 0 rfl c _ (HRc.out _ mC) Tryz.underlying50 rfl (by rw [HL.out]; kernel_rfl) ?_) | (refine wpList_load_mid rfl _ _ rfl bx 0 rfl cp _ (HRp.out _ mC) Tryz.underlying47 rfl (by rw [HM.out]; kernel_rfl) ?_) | (go_at_call 103; (with_reducible refine (impl_InWall c x.1 x.2.1 x.2.2 cp p.1 p.2 _ (Ty.at_more HX.out mC) HWx.out (Ty.at_more HP.out mC) HWp.out).mono ?_); rintro e w1 ⟨rfl, hb1⟩))
  go_ret
  exact ⟨rfl, mC⟩
set_option maxRecDepth 4000 in
set_option maxHeartbeats 1600000 in
theorem indexFunc_WallAt (bx : Nat) (cp : List Value) (v : Value) (l : List (QWall)) (p : QP) (w : World) (hv : tWallS.at w [v] l) (hl : wWallS l ≤ 1048576) (hp : tPoint.at w cp p) (hwp : wPoint p ≤ 1048576) (hb : bx < w.heap.size) (hq : w.rangeAt bx 0 cp) :
    Calls Tryz.prog 101 #[v, .func (.func 102) #[] #[.pointer (some ⟨bx, 0, none⟩)]] w fun e w' => e = .returned (.int .i64 (idxI (watP p) l)) ∧ More w w' := by
  obtain ⟨ao, cap, rfl⟩ := sl_len hv
  have HV := Lib.hid hv; clear hv
  have HP := Lib.hid hp; have HWp := Lib.hid hwp; clear hp hwp
  have HWl : Hid (l.length + wsum wWall l ≤ 1048576) := Lib.hid hl
  have hl : l.length ≤ 1048576 := by have := HWl.out; omega
  have Q : Hid (∀ W, More w W → bx < W.heap.size ∧ W.rangeAt bx 0 cp) := Lib.hid (fun W h => ⟨Nat.lt_of_lt_of_le hb h.size, range_keep h hb hq⟩)
  clear hq hb
  obtain ⟨n, hn⟩ : ∃ n, n = l.length := ⟨_, rfl⟩
  rw [← hn] at HV hl ⊢
  have HN := Lib.hid hn; clear hn
  go_enter Tryz.func101, Tryz.ntmps101
  go_wp2_with fail
  go_loopw [8] (fun i wr => ∃ k : Nat, k ≤ n ∧ i = .int .i64 k ∧ More w wr ∧ Hid (∀ (i : Nat) y, i < k → l[i]? = some y → watP p y = false)) (fun i _ => n - (intOf i).toNat)
  case atStart => exact ⟨0, Nat.zero_le _, rfl, More.refl _, Lib.hid (fun i y hi => by omega)⟩
  case round =>
    obtain ⟨k, hk, rfl, hm, HB0⟩ := hrel
    by_cases hlt : k < n
    · obtain ⟨b, off, x, c, rfl, hblt, hx, hat, hlen, hr⟩ := el_range (Ty.at_more HV.out hm) (k := k) (by rw [← HN.out]; exact hlt)
      have hlen : c.length = 9 := hlen
      have hr : wr.rangeAt b (off + k * 9) c := hr _ (More.refl _)
      have HX := Lib.hid hx; have HA := Lib.hid hat; have HL := Lib.hid hlen; have HR := Lib.hid hr; clear hx hat hlen hr
      rcases Bool.eq_false_or_eq_true (watP p x) with hd | hd
      all_goals
        have HD := Lib.hid hd; clear hd
        go_wp2_with (refine wpList_load_mid rfl _ _ rfl b (off + k * 9) rfl c _ HR.out Tryz.underlying50 rfl (by rw [HL.out]; kernel_rfl) ?_)
        refine (impl_WallAt_1 bx cp c x p _ HA.out (by have := wsum_el (f := wWall) HX.out; have := HWl.out; omega) (Ty.at_more HP.out hm) HWp.out (Q.out _ hm).1 (Q.out _ hm).2).mono ?_
        rintro e w1 ⟨rfl, hb1⟩
        rw [HD.out]
        go_wp2_with fail
      · go_ret
        exact ⟨ret_int (idxI_found HB0.out HX.out HD.out).symm, mC⟩
      · go_roundw
        case rel => exact ⟨k + 1, by omega, by go_num, mC, Lib.hid (fun i z hi hz => by
          rcases Nat.lt_succ_iff_lt_or_eq.1 hi with h | rfl
          · exact HB0.out i z h hz
          · rw [HX.out] at hz; cases hz; exact HD.out)⟩
        case measure => simp [intOf]; omega
    · go_wp2_with fail
      go_ret
      exact ⟨ret_int (idxI_none (fun i z hz => HB0.out i z (by have := (List.getElem?_eq_some_iff.1 hz).1; have := HN.out; omega) hz)).symm, hm⟩
set_option maxRecDepth 4000 in
set_option maxHeartbeats 1600000 in
theorem impl_WallAt (cs0 : List Value) (x : QSlice) (cs1 : List Value) (p : QP) (w : World) (hv0 : tSlc.at w cs0 x) (hw0 : wSlice x ≤ 1048576) (hv1 : tPoint.at w cs1 p) (hw1 : wPoint p ≤ 1048576) :
    Calls Tryz.prog 38 #[.agg cs0.toArray, .agg cs1.toArray] w fun e w' => e = .returned (.int .i64 (idxI (watP p) x.2.2.2.2.2.1)) ∧ More w w' := by
  obtain ⟨k0, d0, rfl, f0, e0⟩ := at_prod hv0
  obtain ⟨k1, d1, rfl, f1, e1⟩ := at_prod e0
  obtain ⟨k2, d2, rfl, f2, e2⟩ := at_prod e1
  obtain ⟨k3, d3, rfl, f3, e3⟩ := at_prod e2
  obtain ⟨k4, d4, rfl, f4, e4⟩ := at_prod e3
  obtain ⟨k5, d5, rfl, f5, e5⟩ := at_prod e4
  obtain ⟨k6, d6, rfl, f6, e6⟩ := at_prod e5
  have f7 := e6; clear e6
  obtain rfl := sh_int f0
  have F0 := Lib.hid f0; clear f0
  obtain rfl := sh_bool f1
  have F1 := Lib.hid f1; clear f1
  obtain rfl := sh_Box f2
  have F2 := Lib.hid f2; clear f2
  obtain ⟨z3a0, z3n0, z3c0, rfl⟩ := sh_slice f3
  have F3 := Lib.hid f3; clear f3
  obtain ⟨z4a0, z4n0, z4c0, rfl⟩ := sh_slice f4
  have F4 := Lib.hid f4; clear f4
  obtain ⟨z5a0, z5n0, z5c0, rfl⟩ := sh_slice f5
  have F5 := Lib.hid f5; clear f5
  obtain ⟨z6a0, z6n0, z6c0, rfl⟩ := sh_slice f6
  have F6 := Lib.hid f6; clear f6
  obtain ⟨z7a0, z7n0, z7c0, rfl⟩ := sh_slice f7
  have F7 := Lib.hid f7; clear f7
  obtain ⟨ya1, yn1, yc1, ya2, yn2, yc2, ya4, yn4, yc4, ya5, yn5, yc5, rfl⟩ := sh_Point hv1
  have HP := Lib.hid hv1; have HWp := Lib.hid hw1; clear hv1 hw1
  have hwl : wWallS x.2.2.2.2.2.1 ≤ 1048576 := by unfold wSlice at hw0; omega
  have HW0 := Lib.hid hw0; clear hw0
  have HWl := Lib.hid hwl; clear hwl
  show Calls Tryz.prog 38 #[.agg #[.int .i64 x.1, .bool x.2.1, .int .i64 x.2.2.1.1.1, .int .i64 x.2.2.1.1.2, .int .i64 x.2.2.1.2.1, .int .i64 x.2.2.1.2.2, .slice z3a0 z3n0 z3c0, .slice z4a0 z4n0 z4c0, .slice z5a0 z5n0 z5c0, .slice z6a0 z6n0 z6c0, .slice z7a0 z7n0 z7c0], .agg #[.bool p.1.1.1, .slice ya1 yn1 yc1, .slice ya2 yn2 yc2, .bool p.2.1.1, .slice ya4 yn4 yc4, .slice ya5 yn5 yc5]] w _
  have HX : More ((w.alloc (.cells #[.int .i64 x.1, .bool x.2.1, .int .i64 x.2.2.1.1.1, .int .i64 x.2.2.1.1.2, .int .i64 x.2.2.1.2.1, .int .i64 x.2.2.1.2.2, .slice z3a0 z3n0 z3c0, .slice z4a0 z4n0 z4c0, .slice z5a0 z5n0 z5c0, .slice z6a0 z6n0 z6c0, .slice z7a0 z7n0 z7c0] 90)).alloc (.cells #[.bool p.1.1.1, .slice ya1 yn1 yc1, .slice ya2 yn2 yc2, .bool p.2.1.1, .slice ya4 yn4 yc4, .slice ya5 yn5 yc5] 47)) ((w.alloc (.cells #[.int .i64 x.1, .bool x.2.1, .int .i64 x.2.2.1.1.1, .int .i64 x.2.2.1.1.2, .int .i64 x.2.2.1.2.1, .int .i64 x.2.2.1.2.2, .slice z3a0 z3n0 z3c0, .slice z4a0 z4n0 z4c0, .slice z5a0 z5n0 z5c0, .slice z6a0 z6n0 z6c0, .slice z7a0 z7n0 z7c0] 90)).alloc (.cells #[.bool p.1.1.1, .slice ya1 yn1 yc1, .slice ya2 yn2 yc2, .bool p.2.1.1, .slice ya4 yn4 yc4, .slice ya5 yn5 yc5] 47)) := More.refl _
  have HB : ∀ w', More ((w.alloc (.cells #[.int .i64 x.1, .bool x.2.1, .int .i64 x.2.2.1.1.1, .int .i64 x.2.2.1.1.2, .int .i64 x.2.2.1.2.1, .int .i64 x.2.2.1.2.2, .slice z3a0 z3n0 z3c0, .slice z4a0 z4n0 z4c0, .slice z5a0 z5n0 z5c0, .slice z6a0 z6n0 z6c0, .slice z7a0 z7n0 z7c0] 90)).alloc (.cells #[.bool p.1.1.1, .slice ya1 yn1 yc1, .slice ya2 yn2 yc2, .bool p.2.1.1, .slice ya4 yn4 yc4, .slice ya5 yn5 yc5] 47)) w' → w'.cell? ⟨w.heap.size, 0, none⟩ = some (.int .i64 x.1) ∧ w'.cell? ⟨w.heap.size, 1, none⟩ = some (.bool x.2.1) ∧ w'.cell? ⟨w.heap.size, 2, none⟩ = some (.int .i64 x.2.2.1.1.1) ∧ w'.cell? ⟨w.heap.size, 3, none⟩ = some (.int .i64 x.2.2.1.1.2) ∧ w'.cell? ⟨w.heap.size, 4, none⟩ = some (.int .i64 x.2.2.1.2.1) ∧ w'.cell? ⟨w.heap.size, 5, none⟩ = some (.int .i64 x.2.2.1.2.2) ∧ w'.cell? ⟨w.heap.size, 6, none⟩ = some (.slice z3a0 z3n0 z3c0) ∧ w'.cell? ⟨w.heap.size, 7, none⟩ = some (.slice z4a0 z4n0 z4c0) ∧ w'.cell? ⟨w.heap.size, 8, none⟩ = some (.slice z5a0 z5n0 z5c0) ∧ w'.cell? ⟨w.heap.size, 9, none⟩ = some (.slice z6a0 z6n0 z6c0) ∧ w'.cell? ⟨w.heap.size, 10, none⟩ = some (.slice z7a0 z7n0 z7c0) ∧ (∀ j, w'.frozen? ⟨w.heap.size, j, none⟩ = false) ∧ w'.cell? ⟨w.heap.size + 1, 0, none⟩ = some (.bool p.1.1.1) ∧ w'.cell? ⟨w.heap.size + 1, 1, none⟩ = some (.slice ya1 yn1 yc1) ∧ w'.cell? ⟨w.heap.size + 1, 2, none⟩ = some (.slice ya2 yn2 yc2) ∧ w'.cell? ⟨w.heap.size + 1, 3, none⟩ = some (.bool p.2.1.1) ∧ w'.cell? ⟨w.heap.size + 1, 4, none⟩ = some (.slice ya4 yn4 yc4) ∧ w'.cell? ⟨w.heap.size + 1, 5, none⟩ = some (.slice ya5 yn5 yc5) ∧ (∀ j, w'.frozen? ⟨w.heap.size + 1, j, none⟩ = false) := fun w' h => ⟨box_new (by simp) (More.un h) 0, box_new (by simp) (More.un h) 1, box_new (by simp) (More.un h) 2, box_new (by simp) (More.un h) 3, box_new (by simp) (More.un h) 4, box_new (by simp) (More.un h) 5, box_new (by simp) (More.un h) 6, box_new (by simp) (More.un h) 7, box_new (by simp) (More.un h) 8, box_new (by simp) (More.un h) 9, box_new (by simp) (More.un h) 10, fun j => box_free (by simp) (More.un h) j, box_new (by simp) h 0, box_new (by simp) h 1, box_new (by simp) h 2, box_new (by simp) h 3, box_new (by simp) h 4, box_new (by simp) h 5, fun j => box_free (by simp) h j⟩
  have HRp := Lib.hid (fun (w' : World) (h : More ((w.alloc (.cells #[.int .i64 x.1, .bool x.2.1, .int .i64 x.2.2.1.1.1, .int .i64 x.2.2.1.1.2, .int .i64 x.2.2.1.2.1, .int .i64 x.2.2.1.2.2, .slice z3a0 z3n0 z3c0, .slice z4a0 z4n0 z4c0, .slice z5a0 z5n0 z5c0, .slice z6a0 z6n0 z6c0, .slice z7a0 z7n0 z7c0] 90)).alloc (.cells #[.bool p.1.1.1, .slice ya1 yn1 yc1, .slice ya2 yn2 yc2, .bool p.2.1.1, .slice ya4 yn4 yc4, .slice ya5 yn5 yc5] 47)) w') => (box_range (by simp) h : w'.rangeAt (w.heap.size + 1) 0 [.bool p.1.1.1, .slice ya1 yn1 yc1, .slice ya2 yn2 yc2, .bool p.2.1.1, .slice ya4 yn4 yc4, .slice ya5 yn5 yc5]))
  go_enter Tryz.func38, Tryz.ntmps38
  go_wp2_with fail
  refine (indexFunc_WallAt (w.heap.size + 1) [.bool p.1.1.1, .slice ya1 yn1 yc1, .slice ya2 yn2 yc2, .bool p.2.1.1, .slice ya4 yn4 yc4, .slice ya5 yn5 yc5] _ x.2.2.2.2.2.1 p _ (Ty.at_more F5.out mC) HWl.out (Ty.at_more HP.out mC) HWp.out (by simp) (HRp.out _ mC)).mono ?_
  rintro e w1 ⟨rfl, hb1⟩
  go_wp2_with fail
  go_ret
  exact ⟨rfl, mC⟩
set_option maxRecDepth 4000 in
set_option maxHeartbeats 1600000 in
theorem spec_WallAt (cs0 : List Value) (x : QSlice) (cs1 : List Value) (p : QP) (w : World) (hv0 : tSlc.at w cs0 x) (hw0 : wSlice x ≤ 1048576) (hv1 : tPoint.at w cs1 p) (hw1 : wPoint p ≤ 1048576) :
    Calls Tryz.prog 36 #[.agg cs0.toArray, .agg cs1.toArray] w fun e w' => e = .returned (.int .i64 (idxI (watP p) x.2.2.2.2.2.1)) ∧ More w w' := by
  obtain ⟨k0, d0, rfl, f0, e0⟩ := at_prod hv0
  obtain ⟨k1, d1, rfl, f1, e1⟩ := at_prod e0
  obtain ⟨k2, d2, rfl, f2, e2⟩ := at_prod e1
  obtain ⟨k3, d3, rfl, f3, e3⟩ := at_prod e2
  obtain ⟨k4, d4, rfl, f4, e4⟩ := at_prod e3
  obtain ⟨k5, d5, rfl, f5, e5⟩ := at_prod e4
  obtain ⟨k6, d6, rfl, f6, e6⟩ := at_prod e5
  have f7 := e6; clear e6
  obtain rfl := sh_int f0
  have F0 := Lib.hid f0; clear f0
  obtain rfl := sh_bool f1
  have F1 := Lib.hid f1; clear f1
  obtain rfl := sh_Box f2
  have F2 := Lib.hid f2; clear f2
  obtain ⟨z3a0, z3n0, z3c0, rfl⟩ := sh_slice f3
  have F3 := Lib.hid f3; clear f3
  obtain ⟨z4a0, z4n0, z4c0, rfl⟩ := sh_slice f4
  have F4 := Lib.hid f4; clear f4
  obtain ⟨z5a0, z5n0, z5c0, rfl⟩ := sh_slice f5
  have F5 := Lib.hid f5; clear f5
  obtain ⟨z6a0, z6n0, z6c0, rfl⟩ := sh_slice f6
  have F6 := Lib.hid f6; clear f6
  obtain ⟨z7a0, z7n0, z7c0, rfl⟩ := sh_slice f7
  have F7 := Lib.hid f7; clear f7
  obtain ⟨ya1, yn1, yc1, ya2, yn2, yc2, ya4, yn4, yc4, ya5, yn5, yc5, rfl⟩ := sh_Point hv1
  have HP := Lib.hid hv1; have HWp := Lib.hid hw1; clear hv1 hw1
  have hwl : wWallS x.2.2.2.2.2.1 ≤ 1048576 := by unfold wSlice at hw0; omega
  have HW0 := Lib.hid hw0; clear hw0
  obtain ⟨l, hl⟩ : ∃ l, l = x.2.2.2.2.2.1 := ⟨_, rfl⟩
  rw [← hl] at hwl ⊢
  have HWl : Hid (l.length + wsum wWall l ≤ 1048576) := Lib.hid hwl
  have hll : l.length ≤ 1048576 := by have := HWl.out; omega
  have HV : Hid (tWallS.at w [.slice z5a0 z5n0 z5c0] l) := Lib.hid (by rw [hl]; exact F5.out)
  clear hl hwl
  obtain ⟨ao9, cap9, e9⟩ := sl_len HV.out
  simp only [Value.slice.injEq] at e9
  obtain ⟨-, e2, -⟩ := e9
  subst e2
  obtain ⟨n, hn⟩ : ∃ n, n = l.length := ⟨_, rfl⟩
  rw [← hn] at HV hll ⊢
  have HN := Lib.hid hn; clear hn
  show Calls Tryz.prog 36 #[.agg #[.int .i64 x.1, .bool x.2.1, .int .i64 x.2.2.1.1.1, .int .i64 x.2.2.1.1.2, .int .i64 x.2.2.1.2.1, .int .i64 x.2.2.1.2.2, .slice z3a0 z3n0 z3c0, .slice z4a0 z4n0 z4c0, .slice z5a0 n z5c0, .slice z6a0 z6n0 z6c0, .slice z7a0 z7n0 z7c0], .agg #[.bool p.1.1.1, .slice ya1 yn1 yc1, .slice ya2 yn2 yc2, .bool p.2.1.1, .slice ya4 yn4 yc4, .slice ya5 yn5 yc5]] w _
  have HX : More ((w.alloc (.cells #[.int .i64 x.1, .bool x.2.1, .int .i64 x.2.2.1.1.1, .int .i64 x.2.2.1.1.2, .int .i64 x.2.2.1.2.1, .int .i64 x.2.2.1.2.2, .slice z3a0 z3n0 z3c0, .slice z4a0 z4n0 z4c0, .slice z5a0 n z5c0, .slice z6a0 z6n0 z6c0, .slice z7a0 z7n0 z7c0] 90)).alloc (.cells #[.bool p.1.1.1, .slice ya1 yn1 yc1, .slice ya2 yn2 yc2, .bool p.2.1.1, .slice ya4 yn4 yc4, .slice ya5 yn5 yc5] 47)) ((w.alloc (.cells #[.int .i64 x.1, .bool x.2.1, .int .i64 x.2.2.1.1.1, .int .i64 x.2.2.1.1.2, .int .i64 x.2.2.1.2.1, .int .i64 x.2.2.1.2.2, .slice z3a0 z3n0 z3c0, .slice z4a0 z4n0 z4c0, .slice z5a0 n z5c0, .slice z6a0 z6n0 z6c0, .slice z7a0 z7n0 z7c0] 90)).alloc (.cells #[.bool p.1.1.1, .slice ya1 yn1 yc1, .slice ya2 yn2 yc2, .bool p.2.1.1, .slice ya4 yn4 yc4, .slice ya5 yn5 yc5] 47)) := More.refl _
  have HB : ∀ w', More ((w.alloc (.cells #[.int .i64 x.1, .bool x.2.1, .int .i64 x.2.2.1.1.1, .int .i64 x.2.2.1.1.2, .int .i64 x.2.2.1.2.1, .int .i64 x.2.2.1.2.2, .slice z3a0 z3n0 z3c0, .slice z4a0 z4n0 z4c0, .slice z5a0 n z5c0, .slice z6a0 z6n0 z6c0, .slice z7a0 z7n0 z7c0] 90)).alloc (.cells #[.bool p.1.1.1, .slice ya1 yn1 yc1, .slice ya2 yn2 yc2, .bool p.2.1.1, .slice ya4 yn4 yc4, .slice ya5 yn5 yc5] 47)) w' → w'.cell? ⟨w.heap.size, 0, none⟩ = some (.int .i64 x.1) ∧ w'.cell? ⟨w.heap.size, 1, none⟩ = some (.bool x.2.1) ∧ w'.cell? ⟨w.heap.size, 2, none⟩ = some (.int .i64 x.2.2.1.1.1) ∧ w'.cell? ⟨w.heap.size, 3, none⟩ = some (.int .i64 x.2.2.1.1.2) ∧ w'.cell? ⟨w.heap.size, 4, none⟩ = some (.int .i64 x.2.2.1.2.1) ∧ w'.cell? ⟨w.heap.size, 5, none⟩ = some (.int .i64 x.2.2.1.2.2) ∧ w'.cell? ⟨w.heap.size, 6, none⟩ = some (.slice z3a0 z3n0 z3c0) ∧ w'.cell? ⟨w.heap.size, 7, none⟩ = some (.slice z4a0 z4n0 z4c0) ∧ w'.cell? ⟨w.heap.size, 8, none⟩ = some (.slice z5a0 n z5c0) ∧ w'.cell? ⟨w.heap.size, 9, none⟩ = some (.slice z6a0 z6n0 z6c0) ∧ w'.cell? ⟨w.heap.size, 10, none⟩ = some (.slice z7a0 z7n0 z7c0) ∧ (∀ j, w'.frozen? ⟨w.heap.size, j, none⟩ = false) ∧ w'.cell? ⟨w.heap.size + 1, 0, none⟩ = some (.bool p.1.1.1) ∧ w'.cell? ⟨w.heap.size + 1, 1, none⟩ = some (.slice ya1 yn1 yc1) ∧ w'.cell? ⟨w.heap.size + 1, 2, none⟩ = some (.slice ya2 yn2 yc2) ∧ w'.cell? ⟨w.heap.size + 1, 3, none⟩ = some (.bool p.2.1.1) ∧ w'.cell? ⟨w.heap.size + 1, 4, none⟩ = some (.slice ya4 yn4 yc4) ∧ w'.cell? ⟨w.heap.size + 1, 5, none⟩ = some (.slice ya5 yn5 yc5) ∧ (∀ j, w'.frozen? ⟨w.heap.size + 1, j, none⟩ = false) := fun w' h => ⟨box_new (by simp) (More.un h) 0, box_new (by simp) (More.un h) 1, box_new (by simp) (More.un h) 2, box_new (by simp) (More.un h) 3, box_new (by simp) (More.un h) 4, box_new (by simp) (More.un h) 5, box_new (by simp) (More.un h) 6, box_new (by simp) (More.un h) 7, box_new (by simp) (More.un h) 8, box_new (by simp) (More.un h) 9, box_new (by simp) (More.un h) 10, fun j => box_free (by simp) (More.un h) j, box_new (by simp) h 0, box_new (by simp) h 1, box_new (by simp) h 2, box_new (by simp) h 3, box_new (by simp) h 4, box_new (by simp) h 5, fun j => box_free (by simp) h j⟩
  have HRp := Lib.hid (fun (w' : World) (h : More ((w.alloc (.cells #[.int .i64 x.1, .bool x.2.1, .int .i64 x.2.2.1.1.1, .int .i64 x.2.2.1.1.2, .int .i64 x.2.2.1.2.1, .int .i64 x.2.2.1.2.2, .slice z3a0 z3n0 z3c0, .slice z4a0 z4n0 z4c0, .slice z5a0 n z5c0, .slice z6a0 z6n0 z6c0, .slice z7a0 z7n0 z7c0] 90)).alloc (.cells #[.bool p.1.1.1, .slice ya1 yn1 yc1, .slice ya2 yn2 yc2, .bool p.2.1.1, .slice ya4 yn4 yc4, .slice ya5 yn5 yc5] 47)) w') => (box_range (by simp) h : w'.rangeAt (w.heap.size + 1) 0 [.bool p.1.1.1, .slice ya1 yn1 yc1, .slice ya2 yn2 yc2, .bool p.2.1.1, .slice ya4 yn4 yc4, .slice ya5 yn5 yc5]))
  go_enter Tryz.func36, Tryz.ntmps36
  go_wp2_with fail
  go_loopw [10] (fun i wr => ∃ k : Nat, k ≤ n ∧ i = .int .i64 k ∧ More ((w.alloc (.cells #[.int .i64 x.1, .bool x.2.1, .int .i64 x.2.2.1.1.1, .int .i64 x.2.2.1.1.2, .int .i64 x.2.2.1.2.1, .int .i64 x.2.2.1.2.2, .slice z3a0 z3n0 z3c0, .slice z4a0 z4n0 z4c0, .slice z5a0 n z5c0, .slice z6a0 z6n0 z6c0, .slice z7a0 z7n0 z7c0] 90)).alloc (.cells #[.bool p.1.1.1, .slice ya1 yn1 yc1, .slice ya2 yn2 yc2, .bool p.2.1.1, .slice ya4 yn4 yc4, .slice ya5 yn5 yc5] 47)) wr ∧ Hid (∀ (i : Nat) y, i < k → l[i]? = some y → watP p y = false)) (fun i _ => n - (intOf i).toNat)
  case atStart => exact ⟨0, Nat.zero_le _, rfl, More.refl _, Lib.hid (fun i y hi => by omega)⟩
  case round =>
    obtain ⟨k, hk, rfl, hm, HB0⟩ := hrel
    have HBw := HB _ hm
    have hMw : More w wr := More.trans mC hm
    by_cases hlt : k < n
    · obtain ⟨b, off, y, c, rfl, hblt, hx, hat, hlen, hr⟩ := el_range (Ty.at_more HV.out hMw) (k := k) (by rw [← HN.out]; exact hlt)
      have hlen : c.length = 9 := hlen
      have hr : wr.rangeAt b (off + k * 9) c := hr _ (More.refl _)
      have H1 := Lib.hid (Ty.one _ hat)
      have HX := Lib.hid hx; have HA := Lib.hid hat; have HL := Lib.hid hlen; have HR := Lib.hid hr; clear hx hat hlen hr
      have HMw := Lib.hid hMw; clear hMw
      rcases Bool.eq_false_or_eq_true (watP p y) with hd | hd
      all_goals
        have HD := Lib.hid hd; clear hd
        go_wp2_with (first | (refine wpList_load_mid rfl _ _ rfl b (off + k * 9) rfl c _ HR.out Tryz.underlying50 rfl (by rw [HL.out]; kernel_rfl) ?_) | (refine wpList_store_new rfl _ _ _ rfl wr.heap.size rfl c rfl rfl (by rw [HL.out]; rfl) (by rw [HL.out]; kernel_rfl) H1.out ?_; intro w2 hb2 hlt2 hr2; have HR2 := Lib.hid (fun (w' : World) (h : More w2 w') => range_keep h hlt2 hr2); clear hlt2 hr2) | (refine wpList_load_mid rfl _ _ rfl wr.heap.size 0 rfl c _ (HR2.out _ mC) Tryz.underlying50 rfl (by rw [HL.out]; kernel_rfl) ?_) | (refine wpList_load_mid rfl _ _ rfl (w.heap.size + 1) 0 rfl [.bool p.1.1.1, .slice ya1 yn1 yc1, .slice ya2 yn2 yc2, .bool p.2.1.1, .slice ya4 yn4 yc4, .slice ya5 yn5 yc5] _ (HRp.out _ (hm.trans mC)) Tryz.underlying47 rfl (by kernel_rfl) ?_))
        refine (spec_InWall c y.1 y.2.1 y.2.2 [.bool p.1.1.1, .slice ya1 yn1 yc1, .slice ya2 yn2 yc2, .bool p.2.1.1, .slice ya4 yn4 yc4, .slice ya5 yn5 yc5] p.1 p.2 _ (Ty.at_more HA.out mC) (by show wWall y ≤ 1048576; have := wsum_el (f := wWall) HX.out; have := HWl.out; omega) (Ty.at_more HP.out (HMw.out.trans mC)) HWp.out).mono ?_
        rintro e w1 ⟨rfl, hb1⟩
        rw [show InWallB (y.1, y.2.1, y.2.2) (p.1, p.2) = watP p y from rfl, HD.out]
        go_wp2_with fail
      · go_ret
        exact ⟨ret_int (idxI_found HB0.out HX.out HD.out).symm, More.trans HMw.out mC⟩
      · go_roundw
        case rel => exact ⟨k + 1, by omega, by go_num, More.trans hm mC, Lib.hid (fun i z hi hz => by
          rcases Nat.lt_succ_iff_lt_or_eq.1 hi with h | rfl
          · exact HB0.out i z h hz
          · rw [HX.out] at hz; cases hz; exact HD.out)⟩
        case measure => simp [intOf]; omega
    · go_wp2_with fail
      go_ret
      exact ⟨ret_int (idxI_none (fun i z hz => HB0.out i z (by have := (List.getElem?_eq_some_iff.1 hz).1; have := HN.out; omega) hz)).symm, hMw⟩
end Go.Proofs.YteihkhniibncnaaGreat
