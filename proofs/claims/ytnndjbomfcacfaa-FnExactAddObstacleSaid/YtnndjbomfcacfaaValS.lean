/- IsValidScene: the reference's and the program's. -/
import Derived.Test.YtnndjbomfcacfaaPoly
import Derived.Test.YtnndjbomfcacfaaGBase
import Derived.Deep.RegionHeld3
namespace Go.Proofs.Ytnndjbomfcacfaa
open Go.RowKit
def inB (m : Int) (v : QV) : Bool := inR v.1 (-m) m && inR v.2 (-m) m
def outB (m : Int) (v : QV) : Bool := !inB m v
def areInB (m : Int) (l : List QV) : Bool := l.all (inB m)
noncomputable def smallB (m : Int) (l : List QV) : Bool := decide (l.length ≤ 5) && isPoly l && areInB m l
noncomputable def bigB (m : Int) (l : List QV) : Bool := !smallB m l
noncomputable def sceneOk (s : QScene) : Bool := areInB 200 [s.1, s.2.1] && decide (s.1.1 < s.2.1.1) && decide (s.1.2 < s.2.1.2) && smallB 20 s.2.2.1 && decide (s.2.2.2.1.length ≤ 4) && s.2.2.2.1.all (smallB 200) && decide (s.2.2.2.2.length ≤ 3) && areInB 200 s.2.2.2.2
theorem areIn_any (m : Int) (l : List QV) : areInB m l = !l.any (outB m) := by
  unfold areInB
  rw [List.not_any_eq_all_not]
  congr 1; funext c; simp [outB]
theorem small_any (m : Int) (l : List (List QV)) : l.all (smallB m) = !l.any (bigB m) := by
  rw [List.not_any_eq_all_not]
  congr 1; funext c; simp [bigB]
set_option maxHeartbeats 800000 in
theorem impl_areIn1 (bm : Nat) (x y m : Int) (w : World) (h0 : 0 ≤ m) (h1 : m ≤ 1000) (gm : bm < w.heap.size) (qm : w.cell? ⟨bm, 0, none⟩ = some (.int .i64 m)) :
    Calls Try.prog 70 #[.agg #[.int .i64 x, .int .i64 y], .pointer (some ⟨bm, 0, none⟩)] w fun e w' => e = .returned (.bool (outB m (x, y))) ∧ More w w' := by
  have nb : bm ≠ w.heap.size := by omega
  rcases Bool.eq_false_or_eq_true (inR x (-m) m) with a | a
  all_goals
    have HA := Lib.hid a
    go_enter Try.func70, Try.ntmps70
    go_wp2_with (go_at_call 71; refine (impl_within _ _ _ _).mono ?_; rintro e w1 ⟨rfl, hb1⟩; obtain ⟨hc1, hf1⟩ := bcell hb1; have hz1 := hb1.size; have hs0 : bm < w1.heap.size := (by (try simp at hz1); omega); have hs1 : w.heap.size < w1.heap.size := (by (try simp at hz1); omega))
    go_ret
    exact ⟨ret_bool (by simp [outB, inB, HA.out]), mC⟩
set_option maxHeartbeats 1600000 in
theorem indexFunc_areIn (v : Value) (l : List QV) (w : World) (bm : Nat) (m : Int) (h0 : 0 ≤ m) (h1 : m ≤ 1000) (gm : bm < w.heap.size) (qm : w.cell? ⟨bm, 0, none⟩ = some (.int .i64 m)) (hv : tVecs.at w [v] l) (hl : l.length ≤ 1048576) :
    Calls Try.prog 76 #[v, .func (.func 70) #[] #[.pointer (some ⟨bm, 0, none⟩)]] w fun e w' => e = .returned (.int .i64 (idxI (outB m) l)) ∧ More w w' := by
  obtain ⟨ao, cap, rfl⟩ := sl_len hv
  have HV := Lib.hid hv; clear hv
  skip
  have Q : Hid (∀ W, More w W → bm < W.heap.size ∧ W.cell? ⟨bm, 0, none⟩ = some (.int .i64 m)) := Lib.hid (fun W h => ⟨Nat.lt_of_lt_of_le gm h.size, ((bcell h).1 _ _ gm).trans qm⟩)
  clear gm qm
  obtain ⟨n, hn⟩ : ∃ n, n = l.length := ⟨_, rfl⟩
  rw [← hn] at HV hl ⊢
  have HN := Lib.hid hn; clear hn
  go_enter Try.func76, Try.ntmps76
  go_wp2_with fail
  go_loopw [8] (fun i wr => ∃ k : Nat, k ≤ n ∧ i = .int .i64 k ∧ More w wr ∧ Hid (∀ (i : Nat) y, i < k → l[i]? = some y → (outB m) y = false)) (fun i _ => n - (intOf i).toNat)
  case atStart => exact ⟨0, Nat.zero_le _, rfl, More.refl _, Lib.hid (fun i y hi => by omega)⟩
  case round =>
    obtain ⟨k, hk, rfl, hm, HB⟩ := hrel
    by_cases hlt : k < n
    · obtain ⟨b, off, x, y, rfl, hblt, hx, ox, oy, c0, c1⟩ := vec_el (Ty.at_more HV.out hm) (k := k) (by rw [← HN.out]; exact hlt)
      have HX := Lib.hid hx; clear hx ox oy
      rcases Bool.eq_false_or_eq_true ((outB m) (x, y)) with hd | hd
      all_goals
        have HD := Lib.hid hd
        go_wp2_with fail
        refine (impl_areIn1 bm x y m _ h0 h1 (Q.out _ hm).1 (Q.out _ hm).2).mono ?_
        rintro e w1 ⟨rfl, hb1⟩
        rw [HD.out]
        go_wp2_with fail
      · go_ret
        exact ⟨ret_int (idxI_found HB.out HX.out HD.out).symm, mC⟩
      · go_roundw
        case rel => exact ⟨k + 1, by omega, by go_num, mC, Lib.hid (fun i z hi hz => by
          rcases Nat.lt_succ_iff_lt_or_eq.1 hi with h | rfl
          · exact HB.out i z h hz
          · rw [HX.out] at hz; cases hz; exact HD.out)⟩
        case measure => simp [intOf]; omega
    · go_wp2_with fail
      go_ret
      exact ⟨ret_int (idxI_none (fun i z hz => HB.out i z (by have := (List.getElem?_eq_some_iff.1 hz).1; have := HN.out; omega) hz)).symm, hm⟩
set_option maxHeartbeats 800000 in
theorem containsFunc_areIn (v : Value) (l : List QV) (w : World) (bm : Nat) (m : Int) (h0 : 0 ≤ m) (h1 : m ≤ 1000) (gm : bm < w.heap.size) (qm : w.cell? ⟨bm, 0, none⟩ = some (.int .i64 m)) (hv : tVecs.at w [v] l) (hl : l.length ≤ 1048576) :
    Calls Try.prog 69 #[v, .func (.func 70) #[] #[.pointer (some ⟨bm, 0, none⟩)]] w fun e w' => e = .returned (.bool (l.any (outB m))) ∧ More w w' := by
  have C := Lib.hid (indexFunc_areIn v l w bm m h0 h1 gm qm hv hl)
  clear hv hl gm qm
  go_enter Try.func69, Try.ntmps69
  go_wp2_with (go_at_call 76; refine C.out.mono ?_; rintro e w1 ⟨rfl, hb1⟩)
  go_ret
  exact ⟨ret_bool idxI_nonneg, mC⟩
set_option maxHeartbeats 800000 in
theorem impl_areIn (v : Value) (l : List QV) (m : Int) (w : World) (h0 : 0 ≤ m) (h1 : m ≤ 1000) (hv : tVecs.at w [v] l) (hl : l.length ≤ 1048576) :
    Calls Try.prog 58 #[.int .i64 m, v] w fun e w' => e = .returned (.bool (areInB m l)) ∧ More w w' := by
  have HV := Lib.hid hv; have HL := Lib.hid hl; clear hv hl
  go_enter Try.func58, Try.ntmps58
  go_wp2_with fail
  refine (containsFunc_areIn _ l _ w.heap.size m h0 h1 ?_ ?_ (Ty.at_more HV.out mC) HL.out).mono ?_
  · simp
  · simp
  rintro e w1 ⟨rfl, hb1⟩
  go_wp2_with fail
  go_ret
  exact ⟨ret_bool (areIn_any m l).symm, mC⟩
set_option maxHeartbeats 1600000 in
theorem impl_isSmall (v : Value) (l : List QV) (m : Int) (w : World) (h0 : 0 ≤ m) (h1 : m ≤ 1000) (hv : tVecs.at w [v] l) (hl : l.length ≤ 1048576) :
    Calls Try.prog 59 #[v, .int .i64 m] w fun e w' => e = .returned (.bool (smallB m l)) ∧ More w w' := by
  have HV := Lib.hid hv; have HL := Lib.hid hl
  obtain ⟨ao, cap, rfl⟩ := sl_len hv
  clear hv
  by_cases h5 : l.length ≤ 5
  · have H5 := Lib.hid h5
    rcases Bool.eq_false_or_eq_true (isPoly l) with p | p
    all_goals
      have HP := Lib.hid p
      go_enter Try.func59, Try.ntmps59
      go_wp2_with (first | (go_at_call 72; refine (impl_IsPolygon _ l _ (Ty.at_more HV.out mC) HL.out).mono ?_; rintro e w1 ⟨rfl, hb1⟩) | (go_at_call 58; refine (impl_areIn _ l m _ h0 h1 (Ty.at_more HV.out mC) HL.out).mono ?_; rintro e w2 ⟨rfl, hb2⟩))
      go_ret
      exact ⟨ret_bool (by rw [smallB, HP.out, decide_eq_true H5.out]; simp), mC⟩
  · have H5 := Lib.hid h5
    go_enter Try.func59, Try.ntmps59
    go_wp2_with fail
    go_ret
    exact ⟨ret_bool (by rw [smallB, decide_eq_false H5.out]; simp), mC⟩
set_option maxHeartbeats 800000 in
theorem impl_valid1 (v : Value) (l : List QV) (w : World) (hv : tVecs.at w [v] l) (hl : l.length ≤ 1048576) :
    Calls Try.prog 61 #[v] w fun e w' => e = .returned (.bool (bigB 200 l)) ∧ More w w' := by
  have HV := Lib.hid hv; have HL := Lib.hid hl; clear hv hl
  go_enter Try.func61, Try.ntmps61
  go_wp2_with (go_at_call 59; refine (impl_isSmall _ l 200 _ (by decide) (by decide) HV.out HL.out).mono ?_; rintro e w1 ⟨rfl, hb1⟩)
  go_ret
  exact ⟨rfl, mC⟩
set_option maxHeartbeats 1600000 in
theorem indexFunc_valid (v : Value) (l : List (List QV)) (w : World)  (hv : tVecSS.at w [v] l) (hl : wVecSS l ≤ 1048577) :
    Calls Try.prog 73 #[v, .func (.func 61) #[] #[]] w fun e w' => e = .returned (.int .i64 (idxI (bigB 200) l)) ∧ More w w' := by
  obtain ⟨ao, cap, rfl⟩ := sl_len hv
  have HV := Lib.hid hv; clear hv
  have HWl : Hid (l.length + wsum wVecS l ≤ 1048577) := Lib.hid hl
  have hl : l.length ≤ 1048577 := by have := HWl.out; omega
  have Q : Hid (∀ W, More w W → True) := Lib.hid (fun W h => trivial)
  skip
  obtain ⟨n, hn⟩ : ∃ n, n = l.length := ⟨_, rfl⟩
  rw [← hn] at HV hl ⊢
  have HN := Lib.hid hn; clear hn
  go_enter Try.func73, Try.ntmps73
  go_wp2_with fail
  go_loopw [8] (fun i wr => ∃ k : Nat, k ≤ n ∧ i = .int .i64 k ∧ More w wr ∧ Hid (∀ (i : Nat) y, i < k → l[i]? = some y → (bigB 200) y = false)) (fun i _ => n - (intOf i).toNat)
  case atStart => exact ⟨0, Nat.zero_le _, rfl, More.refl _, Lib.hid (fun i y hi => by omega)⟩
  case round =>
    obtain ⟨k, hk, rfl, hm, HB⟩ := hrel
    by_cases hlt : k < n
    · obtain ⟨b, off, x, a0, n0, c0, rfl, hblt, hx, hat, c0_⟩ := el_VecS (Ty.at_more HV.out hm) (k := k) (by rw [← HN.out]; exact hlt)
      have HX := Lib.hid hx; have HA := Lib.hid hat; clear hx hat
      rcases Bool.eq_false_or_eq_true ((bigB 200) x) with hd | hd
      all_goals
        have HD := Lib.hid hd
        go_wp2_with fail
        refine (impl_valid1 _ x _ HA.out (show wVecS x ≤ 1048576 by have := wsum_el (f := wVecS) HX.out; have := HWl.out; have := (List.getElem?_eq_some_iff.1 HX.out).1; omega)).mono ?_
        rintro e w1 ⟨rfl, hb1⟩
        rw [HD.out]
        go_wp2_with fail
      · go_ret
        exact ⟨ret_int (idxI_found HB.out HX.out HD.out).symm, mC⟩
      · go_roundw
        case rel => exact ⟨k + 1, by omega, by go_num, mC, Lib.hid (fun i z hi hz => by
          rcases Nat.lt_succ_iff_lt_or_eq.1 hi with h | rfl
          · exact HB.out i z h hz
          · rw [HX.out] at hz; cases hz; exact HD.out)⟩
        case measure => simp [intOf]; omega
    · go_wp2_with fail
      go_ret
      exact ⟨ret_int (idxI_none (fun i z hz => HB.out i z (by have := (List.getElem?_eq_some_iff.1 hz).1; have := HN.out; omega) hz)).symm, hm⟩
set_option maxHeartbeats 800000 in
theorem containsFunc_valid (v : Value) (l : List (List QV)) (w : World)  (hv : tVecSS.at w [v] l) (hl : wVecSS l ≤ 1048577) :
    Calls Try.prog 60 #[v, .func (.func 61) #[] #[]] w fun e w' => e = .returned (.bool (l.any (bigB 200))) ∧ More w w' := by
  have C := Lib.hid (indexFunc_valid v l w  hv hl)
  clear hv hl 
  go_enter Try.func60, Try.ntmps60
  go_wp2_with (go_at_call 73; refine C.out.mono ?_; rintro e w1 ⟨rfl, hb1⟩)
  go_ret
  exact ⟨ret_bool idxI_nonneg, mC⟩
set_option maxHeartbeats 6400000 in
theorem impl_IsValidSceneG (cs : List Value) (s : QScene) (w : World) (hv : tScene.at w cs s) (hw1 : wVecS s.2.2.1 ≤ 1048576) (hw2 : wVecSS s.2.2.2.1 ≤ 1048577) (hw3 : wVecS s.2.2.2.2 ≤ 1048576) :
    Calls Try.prog 32 #[.agg cs.toArray] w fun e w' => e = .returned (.bool (sceneOk s)) ∧ More w w' := by
  obtain ⟨k0, d0, rfl, f0, e0⟩ := at_prod hv
  obtain ⟨k1, d1, rfl, f1, e1⟩ := at_prod e0
  obtain ⟨k2, d2, rfl, f2, e2⟩ := at_prod e1
  obtain ⟨k3, d3, rfl, f3, f4⟩ := at_prod e2
  have hok : ∀ x ∈ [s.1, s.2.1], fVec.ok x := by
    intro x hx
    simp only [List.mem_cons, List.not_mem_nil, or_false] at hx
    rcases hx with rfl | rfl
    · exact (flat_at fVec f0).2
    · exact (flat_at fVec f1).2
  obtain rfl := sh_Vec f0; obtain rfl := sh_Vec f1
  obtain ⟨a1, c1, rfl⟩ := sh_sliceL f2; obtain ⟨a2, c2, rfl⟩ := sh_sliceL f3; obtain ⟨a3, c3, rfl⟩ := sh_sliceL f4
  have HOK := Lib.hid hok; have F1 := Lib.hid f2; have F2 := Lib.hid f3; have F3 := Lib.hid f4
  have L1 : Hid (s.2.2.1.length ≤ 1048576) := Lib.hid hw1
  have L2 : Hid (wVecSS s.2.2.2.1 ≤ 1048577) := Lib.hid hw2
  have L3 : Hid (s.2.2.2.2.length ≤ 1048576) := Lib.hid hw3
  have ll2 : s.2.2.2.1.length ≤ 1048577 := by have := L2.out; unfold wVecSS at this; omega
  have ll3 : s.2.2.2.2.length ≤ 1048576 := L3.out
  clear hv hw1 hw2 hw3 hok f0 f1 f2 f3 f4 e0 e1 e2
  show Calls Try.prog 32 #[.agg #[.int .i64 s.1.1, .int .i64 s.1.2, .int .i64 s.2.1.1, .int .i64 s.2.1.2, .slice a1 s.2.2.1.length c1, .slice a2 s.2.2.2.1.length c2, .slice a3 s.2.2.2.2.length c3]] w _
  rcases Bool.eq_false_or_eq_true (areInB 200 [s.1, s.2.1]) with t1 | t1
  rotate_left
  · have T1 := Lib.hid t1; clear t1
    have HX : More (w.alloc (.cells #[.int .i64 s.1.1, .int .i64 s.1.2, .int .i64 s.2.1.1, .int .i64 s.2.1.2, .slice a1 s.2.2.1.length c1, .slice a2 s.2.2.2.1.length c2, .slice a3 s.2.2.2.2.length c3] 34)) (w.alloc (.cells #[.int .i64 s.1.1, .int .i64 s.1.2, .int .i64 s.2.1.1, .int .i64 s.2.1.2, .slice a1 s.2.2.1.length c1, .slice a2 s.2.2.2.1.length c2, .slice a3 s.2.2.2.2.length c3] 34)) := More.refl _
    have HB : ∀ w', More (w.alloc (.cells #[.int .i64 s.1.1, .int .i64 s.1.2, .int .i64 s.2.1.1, .int .i64 s.2.1.2, .slice a1 s.2.2.1.length c1, .slice a2 s.2.2.2.1.length c2, .slice a3 s.2.2.2.2.length c3] 34)) w' → w'.cell? ⟨w.heap.size, 0, none⟩ = some (.int .i64 s.1.1) ∧ w'.cell? ⟨w.heap.size, 1, none⟩ = some (.int .i64 s.1.2) ∧ w'.cell? ⟨w.heap.size, 2, none⟩ = some (.int .i64 s.2.1.1) ∧ w'.cell? ⟨w.heap.size, 3, none⟩ = some (.int .i64 s.2.1.2) ∧ w'.cell? ⟨w.heap.size, 4, none⟩ = some (.slice a1 s.2.2.1.length c1) ∧ w'.cell? ⟨w.heap.size, 5, none⟩ = some (.slice a2 s.2.2.2.1.length c2) ∧ w'.cell? ⟨w.heap.size, 6, none⟩ = some (.slice a3 s.2.2.2.2.length c3) ∧ (∀ j, w'.frozen? ⟨w.heap.size, j, none⟩ = false) := fun w' h => ⟨box_new (by simp) h 0, box_new (by simp) h 1, box_new (by simp) h 2, box_new (by simp) h 3, box_new (by simp) h 4, box_new (by simp) h 5, box_new (by simp) h 6, fun j => box_free (by simp) h j⟩
    go_enter Try.func32, Try.ntmps32
    go_wp2_with fail
    refine (impl_areIn _ [s.1, s.2.1] 200 _ (by decide) (by decide) (Ty.fresh_at (lit_fresh fVec (by simp) rfl rfl (by simp) HOK.out)) (by simp)).mono ?_
    rintro e w1 ⟨rfl, hb1⟩; have HX : More (w.alloc (.cells #[.int .i64 s.1.1, .int .i64 s.1.2, .int .i64 s.2.1.1, .int .i64 s.2.1.2, .slice a1 s.2.2.1.length c1, .slice a2 s.2.2.2.1.length c2, .slice a3 s.2.2.2.2.length c3] 34)) w1 := More.un hb1; have HBw := HB _ HX
    rw [T1.out]
    go_wp2_with fail
    go_ret
    exact ⟨ret_bool (by rw [sceneOk, T1.out]; rfl), mC⟩
  have T1 := Lib.hid t1; clear t1
  by_cases t2 : s.1.1 < s.2.1.1
  rotate_left
  · have T2 := Lib.hid t2
    have HX : More (w.alloc (.cells #[.int .i64 s.1.1, .int .i64 s.1.2, .int .i64 s.2.1.1, .int .i64 s.2.1.2, .slice a1 s.2.2.1.length c1, .slice a2 s.2.2.2.1.length c2, .slice a3 s.2.2.2.2.length c3] 34)) (w.alloc (.cells #[.int .i64 s.1.1, .int .i64 s.1.2, .int .i64 s.2.1.1, .int .i64 s.2.1.2, .slice a1 s.2.2.1.length c1, .slice a2 s.2.2.2.1.length c2, .slice a3 s.2.2.2.2.length c3] 34)) := More.refl _
    have HB : ∀ w', More (w.alloc (.cells #[.int .i64 s.1.1, .int .i64 s.1.2, .int .i64 s.2.1.1, .int .i64 s.2.1.2, .slice a1 s.2.2.1.length c1, .slice a2 s.2.2.2.1.length c2, .slice a3 s.2.2.2.2.length c3] 34)) w' → w'.cell? ⟨w.heap.size, 0, none⟩ = some (.int .i64 s.1.1) ∧ w'.cell? ⟨w.heap.size, 1, none⟩ = some (.int .i64 s.1.2) ∧ w'.cell? ⟨w.heap.size, 2, none⟩ = some (.int .i64 s.2.1.1) ∧ w'.cell? ⟨w.heap.size, 3, none⟩ = some (.int .i64 s.2.1.2) ∧ w'.cell? ⟨w.heap.size, 4, none⟩ = some (.slice a1 s.2.2.1.length c1) ∧ w'.cell? ⟨w.heap.size, 5, none⟩ = some (.slice a2 s.2.2.2.1.length c2) ∧ w'.cell? ⟨w.heap.size, 6, none⟩ = some (.slice a3 s.2.2.2.2.length c3) ∧ (∀ j, w'.frozen? ⟨w.heap.size, j, none⟩ = false) := fun w' h => ⟨box_new (by simp) h 0, box_new (by simp) h 1, box_new (by simp) h 2, box_new (by simp) h 3, box_new (by simp) h 4, box_new (by simp) h 5, box_new (by simp) h 6, fun j => box_free (by simp) h j⟩
    go_enter Try.func32, Try.ntmps32
    go_wp2_with fail
    refine (impl_areIn _ [s.1, s.2.1] 200 _ (by decide) (by decide) (Ty.fresh_at (lit_fresh fVec (by simp) rfl rfl (by simp) HOK.out)) (by simp)).mono ?_
    rintro e w1 ⟨rfl, hb1⟩; have HX : More (w.alloc (.cells #[.int .i64 s.1.1, .int .i64 s.1.2, .int .i64 s.2.1.1, .int .i64 s.2.1.2, .slice a1 s.2.2.1.length c1, .slice a2 s.2.2.2.1.length c2, .slice a3 s.2.2.2.2.length c3] 34)) w1 := More.un hb1; have HBw := HB _ HX
    rw [T1.out]
    go_wp2_with fail
    go_ret
    exact ⟨ret_bool (by rw [sceneOk, T1.out, decide_eq_false (by have := T2.out; omega)]; rfl), mC⟩
  by_cases t3 : s.1.2 < s.2.1.2
  rotate_left
  · have T2 := Lib.hid t2; have T3 := Lib.hid t3
    have HX : More (w.alloc (.cells #[.int .i64 s.1.1, .int .i64 s.1.2, .int .i64 s.2.1.1, .int .i64 s.2.1.2, .slice a1 s.2.2.1.length c1, .slice a2 s.2.2.2.1.length c2, .slice a3 s.2.2.2.2.length c3] 34)) (w.alloc (.cells #[.int .i64 s.1.1, .int .i64 s.1.2, .int .i64 s.2.1.1, .int .i64 s.2.1.2, .slice a1 s.2.2.1.length c1, .slice a2 s.2.2.2.1.length c2, .slice a3 s.2.2.2.2.length c3] 34)) := More.refl _
    have HB : ∀ w', More (w.alloc (.cells #[.int .i64 s.1.1, .int .i64 s.1.2, .int .i64 s.2.1.1, .int .i64 s.2.1.2, .slice a1 s.2.2.1.length c1, .slice a2 s.2.2.2.1.length c2, .slice a3 s.2.2.2.2.length c3] 34)) w' → w'.cell? ⟨w.heap.size, 0, none⟩ = some (.int .i64 s.1.1) ∧ w'.cell? ⟨w.heap.size, 1, none⟩ = some (.int .i64 s.1.2) ∧ w'.cell? ⟨w.heap.size, 2, none⟩ = some (.int .i64 s.2.1.1) ∧ w'.cell? ⟨w.heap.size, 3, none⟩ = some (.int .i64 s.2.1.2) ∧ w'.cell? ⟨w.heap.size, 4, none⟩ = some (.slice a1 s.2.2.1.length c1) ∧ w'.cell? ⟨w.heap.size, 5, none⟩ = some (.slice a2 s.2.2.2.1.length c2) ∧ w'.cell? ⟨w.heap.size, 6, none⟩ = some (.slice a3 s.2.2.2.2.length c3) ∧ (∀ j, w'.frozen? ⟨w.heap.size, j, none⟩ = false) := fun w' h => ⟨box_new (by simp) h 0, box_new (by simp) h 1, box_new (by simp) h 2, box_new (by simp) h 3, box_new (by simp) h 4, box_new (by simp) h 5, box_new (by simp) h 6, fun j => box_free (by simp) h j⟩
    go_enter Try.func32, Try.ntmps32
    go_wp2_with fail
    refine (impl_areIn _ [s.1, s.2.1] 200 _ (by decide) (by decide) (Ty.fresh_at (lit_fresh fVec (by simp) rfl rfl (by simp) HOK.out)) (by simp)).mono ?_
    rintro e w1 ⟨rfl, hb1⟩; have HX : More (w.alloc (.cells #[.int .i64 s.1.1, .int .i64 s.1.2, .int .i64 s.2.1.1, .int .i64 s.2.1.2, .slice a1 s.2.2.1.length c1, .slice a2 s.2.2.2.1.length c2, .slice a3 s.2.2.2.2.length c3] 34)) w1 := More.un hb1; have HBw := HB _ HX
    rw [T1.out]
    go_wp2_with fail
    go_ret
    exact ⟨ret_bool (by rw [sceneOk, T1.out, decide_eq_true T2.out, decide_eq_false (by have := T3.out; omega)]; rfl), mC⟩
  have HH : Hid (sceneOk s = (smallB 20 s.2.2.1 && decide (s.2.2.2.1.length ≤ 4) && s.2.2.2.1.all (smallB 200) && decide (s.2.2.2.2.length ≤ 3) && areInB 200 s.2.2.2.2)) := Lib.hid (by rw [sceneOk, T1.out, decide_eq_true t2, decide_eq_true t3]; rfl)
  rcases Bool.eq_false_or_eq_true (smallB 20 s.2.2.1) with t4 | t4
  rotate_left
  · have T4 := Lib.hid t4; clear t4
    have HX : More (w.alloc (.cells #[.int .i64 s.1.1, .int .i64 s.1.2, .int .i64 s.2.1.1, .int .i64 s.2.1.2, .slice a1 s.2.2.1.length c1, .slice a2 s.2.2.2.1.length c2, .slice a3 s.2.2.2.2.length c3] 34)) (w.alloc (.cells #[.int .i64 s.1.1, .int .i64 s.1.2, .int .i64 s.2.1.1, .int .i64 s.2.1.2, .slice a1 s.2.2.1.length c1, .slice a2 s.2.2.2.1.length c2, .slice a3 s.2.2.2.2.length c3] 34)) := More.refl _
    have HB : ∀ w', More (w.alloc (.cells #[.int .i64 s.1.1, .int .i64 s.1.2, .int .i64 s.2.1.1, .int .i64 s.2.1.2, .slice a1 s.2.2.1.length c1, .slice a2 s.2.2.2.1.length c2, .slice a3 s.2.2.2.2.length c3] 34)) w' → w'.cell? ⟨w.heap.size, 0, none⟩ = some (.int .i64 s.1.1) ∧ w'.cell? ⟨w.heap.size, 1, none⟩ = some (.int .i64 s.1.2) ∧ w'.cell? ⟨w.heap.size, 2, none⟩ = some (.int .i64 s.2.1.1) ∧ w'.cell? ⟨w.heap.size, 3, none⟩ = some (.int .i64 s.2.1.2) ∧ w'.cell? ⟨w.heap.size, 4, none⟩ = some (.slice a1 s.2.2.1.length c1) ∧ w'.cell? ⟨w.heap.size, 5, none⟩ = some (.slice a2 s.2.2.2.1.length c2) ∧ w'.cell? ⟨w.heap.size, 6, none⟩ = some (.slice a3 s.2.2.2.2.length c3) ∧ (∀ j, w'.frozen? ⟨w.heap.size, j, none⟩ = false) := fun w' h => ⟨box_new (by simp) h 0, box_new (by simp) h 1, box_new (by simp) h 2, box_new (by simp) h 3, box_new (by simp) h 4, box_new (by simp) h 5, box_new (by simp) h 6, fun j => box_free (by simp) h j⟩
    go_enter Try.func32, Try.ntmps32
    go_wp2_with fail
    refine (impl_areIn _ [s.1, s.2.1] 200 _ (by decide) (by decide) (Ty.fresh_at (lit_fresh fVec (by simp) rfl rfl (by simp) HOK.out)) (by simp)).mono ?_
    rintro e w1 ⟨rfl, hb1⟩; have HX : More (w.alloc (.cells #[.int .i64 s.1.1, .int .i64 s.1.2, .int .i64 s.2.1.1, .int .i64 s.2.1.2, .slice a1 s.2.2.1.length c1, .slice a2 s.2.2.2.1.length c2, .slice a3 s.2.2.2.2.length c3] 34)) w1 := More.un hb1; have HBw := HB _ HX
    rw [T1.out]
    go_wp2_with fail
    refine (impl_isSmall _ s.2.2.1 20 _ (by decide) (by decide) (Ty.at_more F1.out mC) L1.out).mono ?_
    rintro e w2 ⟨rfl, hb1⟩; have HX : More (w.alloc (.cells #[.int .i64 s.1.1, .int .i64 s.1.2, .int .i64 s.2.1.1, .int .i64 s.2.1.2, .slice a1 s.2.2.1.length c1, .slice a2 s.2.2.2.1.length c2, .slice a3 s.2.2.2.2.length c3] 34)) _ := More.trans (by assumption) hb1; have HBw := HB _ HX
    rw [T4.out]
    go_wp2_with fail
    go_ret
    exact ⟨ret_bool (by rw [HH.out, T4.out]; rfl), mC⟩
  have T4 := Lib.hid t4; clear t4
  have HH2 : Hid (sceneOk s = (decide (s.2.2.2.1.length ≤ 4) && s.2.2.2.1.all (smallB 200) && decide (s.2.2.2.2.length ≤ 3) && areInB 200 s.2.2.2.2)) := Lib.hid (by rw [HH.out, T4.out]; rfl)
  clear HH
  by_cases t5 : s.2.2.2.1.length ≤ 4
  rotate_left
  · have T5 := Lib.hid t5
    have t5' : (4 : Int) < (s.2.2.2.1.length : Int) := by omega
    have HX : More (w.alloc (.cells #[.int .i64 s.1.1, .int .i64 s.1.2, .int .i64 s.2.1.1, .int .i64 s.2.1.2, .slice a1 s.2.2.1.length c1, .slice a2 s.2.2.2.1.length c2, .slice a3 s.2.2.2.2.length c3] 34)) (w.alloc (.cells #[.int .i64 s.1.1, .int .i64 s.1.2, .int .i64 s.2.1.1, .int .i64 s.2.1.2, .slice a1 s.2.2.1.length c1, .slice a2 s.2.2.2.1.length c2, .slice a3 s.2.2.2.2.length c3] 34)) := More.refl _
    have HB : ∀ w', More (w.alloc (.cells #[.int .i64 s.1.1, .int .i64 s.1.2, .int .i64 s.2.1.1, .int .i64 s.2.1.2, .slice a1 s.2.2.1.length c1, .slice a2 s.2.2.2.1.length c2, .slice a3 s.2.2.2.2.length c3] 34)) w' → w'.cell? ⟨w.heap.size, 0, none⟩ = some (.int .i64 s.1.1) ∧ w'.cell? ⟨w.heap.size, 1, none⟩ = some (.int .i64 s.1.2) ∧ w'.cell? ⟨w.heap.size, 2, none⟩ = some (.int .i64 s.2.1.1) ∧ w'.cell? ⟨w.heap.size, 3, none⟩ = some (.int .i64 s.2.1.2) ∧ w'.cell? ⟨w.heap.size, 4, none⟩ = some (.slice a1 s.2.2.1.length c1) ∧ w'.cell? ⟨w.heap.size, 5, none⟩ = some (.slice a2 s.2.2.2.1.length c2) ∧ w'.cell? ⟨w.heap.size, 6, none⟩ = some (.slice a3 s.2.2.2.2.length c3) ∧ (∀ j, w'.frozen? ⟨w.heap.size, j, none⟩ = false) := fun w' h => ⟨box_new (by simp) h 0, box_new (by simp) h 1, box_new (by simp) h 2, box_new (by simp) h 3, box_new (by simp) h 4, box_new (by simp) h 5, box_new (by simp) h 6, fun j => box_free (by simp) h j⟩
    go_enter Try.func32, Try.ntmps32
    go_wp2_with fail
    refine (impl_areIn _ [s.1, s.2.1] 200 _ (by decide) (by decide) (Ty.fresh_at (lit_fresh fVec (by simp) rfl rfl (by simp) HOK.out)) (by simp)).mono ?_
    rintro e w1 ⟨rfl, hb1⟩; have HX : More (w.alloc (.cells #[.int .i64 s.1.1, .int .i64 s.1.2, .int .i64 s.2.1.1, .int .i64 s.2.1.2, .slice a1 s.2.2.1.length c1, .slice a2 s.2.2.2.1.length c2, .slice a3 s.2.2.2.2.length c3] 34)) w1 := More.un hb1; have HBw := HB _ HX
    rw [T1.out]
    go_wp2_with fail
    refine (impl_isSmall _ s.2.2.1 20 _ (by decide) (by decide) (Ty.at_more F1.out mC) L1.out).mono ?_
    rintro e w2 ⟨rfl, hb1⟩; have HX : More (w.alloc (.cells #[.int .i64 s.1.1, .int .i64 s.1.2, .int .i64 s.2.1.1, .int .i64 s.2.1.2, .slice a1 s.2.2.1.length c1, .slice a2 s.2.2.2.1.length c2, .slice a3 s.2.2.2.2.length c3] 34)) _ := More.trans (by assumption) hb1; have HBw := HB _ HX
    rw [T4.out]
    go_wp2_with fail
    go_ret
    exact ⟨ret_bool (by rw [HH2.out, decide_eq_false (by have := T5.out; omega)]; rfl), mC⟩
  have T5 := Lib.hid t5
  have t5' : ¬ (4 : Int) < (s.2.2.2.1.length : Int) := by omega
  rcases Bool.eq_false_or_eq_true (s.2.2.2.1.any (bigB 200)) with t6 | t6
  · have T6 := Lib.hid t6; clear t6
    have HX : More (w.alloc (.cells #[.int .i64 s.1.1, .int .i64 s.1.2, .int .i64 s.2.1.1, .int .i64 s.2.1.2, .slice a1 s.2.2.1.length c1, .slice a2 s.2.2.2.1.length c2, .slice a3 s.2.2.2.2.length c3] 34)) (w.alloc (.cells #[.int .i64 s.1.1, .int .i64 s.1.2, .int .i64 s.2.1.1, .int .i64 s.2.1.2, .slice a1 s.2.2.1.length c1, .slice a2 s.2.2.2.1.length c2, .slice a3 s.2.2.2.2.length c3] 34)) := More.refl _
    have HB : ∀ w', More (w.alloc (.cells #[.int .i64 s.1.1, .int .i64 s.1.2, .int .i64 s.2.1.1, .int .i64 s.2.1.2, .slice a1 s.2.2.1.length c1, .slice a2 s.2.2.2.1.length c2, .slice a3 s.2.2.2.2.length c3] 34)) w' → w'.cell? ⟨w.heap.size, 0, none⟩ = some (.int .i64 s.1.1) ∧ w'.cell? ⟨w.heap.size, 1, none⟩ = some (.int .i64 s.1.2) ∧ w'.cell? ⟨w.heap.size, 2, none⟩ = some (.int .i64 s.2.1.1) ∧ w'.cell? ⟨w.heap.size, 3, none⟩ = some (.int .i64 s.2.1.2) ∧ w'.cell? ⟨w.heap.size, 4, none⟩ = some (.slice a1 s.2.2.1.length c1) ∧ w'.cell? ⟨w.heap.size, 5, none⟩ = some (.slice a2 s.2.2.2.1.length c2) ∧ w'.cell? ⟨w.heap.size, 6, none⟩ = some (.slice a3 s.2.2.2.2.length c3) ∧ (∀ j, w'.frozen? ⟨w.heap.size, j, none⟩ = false) := fun w' h => ⟨box_new (by simp) h 0, box_new (by simp) h 1, box_new (by simp) h 2, box_new (by simp) h 3, box_new (by simp) h 4, box_new (by simp) h 5, box_new (by simp) h 6, fun j => box_free (by simp) h j⟩
    go_enter Try.func32, Try.ntmps32
    go_wp2_with fail
    refine (impl_areIn _ [s.1, s.2.1] 200 _ (by decide) (by decide) (Ty.fresh_at (lit_fresh fVec (by simp) rfl rfl (by simp) HOK.out)) (by simp)).mono ?_
    rintro e w1 ⟨rfl, hb1⟩; have HX : More (w.alloc (.cells #[.int .i64 s.1.1, .int .i64 s.1.2, .int .i64 s.2.1.1, .int .i64 s.2.1.2, .slice a1 s.2.2.1.length c1, .slice a2 s.2.2.2.1.length c2, .slice a3 s.2.2.2.2.length c3] 34)) w1 := More.un hb1; have HBw := HB _ HX
    rw [T1.out]
    go_wp2_with fail
    refine (impl_isSmall _ s.2.2.1 20 _ (by decide) (by decide) (Ty.at_more F1.out mC) L1.out).mono ?_
    rintro e w2 ⟨rfl, hb1⟩; have HX : More (w.alloc (.cells #[.int .i64 s.1.1, .int .i64 s.1.2, .int .i64 s.2.1.1, .int .i64 s.2.1.2, .slice a1 s.2.2.1.length c1, .slice a2 s.2.2.2.1.length c2, .slice a3 s.2.2.2.2.length c3] 34)) _ := More.trans (by assumption) hb1; have HBw := HB _ HX
    rw [T4.out]
    go_wp2_with fail
    refine (containsFunc_valid _ s.2.2.2.1 _ (Ty.at_more F2.out mC) L2.out).mono ?_
    rintro e w3 ⟨rfl, hb1⟩; have HX : More (w.alloc (.cells #[.int .i64 s.1.1, .int .i64 s.1.2, .int .i64 s.2.1.1, .int .i64 s.2.1.2, .slice a1 s.2.2.1.length c1, .slice a2 s.2.2.2.1.length c2, .slice a3 s.2.2.2.2.length c3] 34)) _ := More.trans (by assumption) hb1; have HBw := HB _ HX
    rw [T6.out]
    go_wp2_with fail
    go_ret
    exact ⟨ret_bool (by rw [HH2.out, decide_eq_true T5.out, small_any, T6.out]; rfl), mC⟩
  have T6 := Lib.hid t6; clear t6
  by_cases t7 : s.2.2.2.2.length ≤ 3
  · have T7 := Lib.hid t7
    have t7' : (s.2.2.2.2.length : Int) ≤ 3 := by omega
    have HX : More (w.alloc (.cells #[.int .i64 s.1.1, .int .i64 s.1.2, .int .i64 s.2.1.1, .int .i64 s.2.1.2, .slice a1 s.2.2.1.length c1, .slice a2 s.2.2.2.1.length c2, .slice a3 s.2.2.2.2.length c3] 34)) (w.alloc (.cells #[.int .i64 s.1.1, .int .i64 s.1.2, .int .i64 s.2.1.1, .int .i64 s.2.1.2, .slice a1 s.2.2.1.length c1, .slice a2 s.2.2.2.1.length c2, .slice a3 s.2.2.2.2.length c3] 34)) := More.refl _
    have HB : ∀ w', More (w.alloc (.cells #[.int .i64 s.1.1, .int .i64 s.1.2, .int .i64 s.2.1.1, .int .i64 s.2.1.2, .slice a1 s.2.2.1.length c1, .slice a2 s.2.2.2.1.length c2, .slice a3 s.2.2.2.2.length c3] 34)) w' → w'.cell? ⟨w.heap.size, 0, none⟩ = some (.int .i64 s.1.1) ∧ w'.cell? ⟨w.heap.size, 1, none⟩ = some (.int .i64 s.1.2) ∧ w'.cell? ⟨w.heap.size, 2, none⟩ = some (.int .i64 s.2.1.1) ∧ w'.cell? ⟨w.heap.size, 3, none⟩ = some (.int .i64 s.2.1.2) ∧ w'.cell? ⟨w.heap.size, 4, none⟩ = some (.slice a1 s.2.2.1.length c1) ∧ w'.cell? ⟨w.heap.size, 5, none⟩ = some (.slice a2 s.2.2.2.1.length c2) ∧ w'.cell? ⟨w.heap.size, 6, none⟩ = some (.slice a3 s.2.2.2.2.length c3) ∧ (∀ j, w'.frozen? ⟨w.heap.size, j, none⟩ = false) := fun w' h => ⟨box_new (by simp) h 0, box_new (by simp) h 1, box_new (by simp) h 2, box_new (by simp) h 3, box_new (by simp) h 4, box_new (by simp) h 5, box_new (by simp) h 6, fun j => box_free (by simp) h j⟩
    go_enter Try.func32, Try.ntmps32
    go_wp2_with fail
    refine (impl_areIn _ [s.1, s.2.1] 200 _ (by decide) (by decide) (Ty.fresh_at (lit_fresh fVec (by simp) rfl rfl (by simp) HOK.out)) (by simp)).mono ?_
    rintro e w1 ⟨rfl, hb1⟩; have HX : More (w.alloc (.cells #[.int .i64 s.1.1, .int .i64 s.1.2, .int .i64 s.2.1.1, .int .i64 s.2.1.2, .slice a1 s.2.2.1.length c1, .slice a2 s.2.2.2.1.length c2, .slice a3 s.2.2.2.2.length c3] 34)) w1 := More.un hb1; have HBw := HB _ HX
    rw [T1.out]
    go_wp2_with fail
    refine (impl_isSmall _ s.2.2.1 20 _ (by decide) (by decide) (Ty.at_more F1.out mC) L1.out).mono ?_
    rintro e w2 ⟨rfl, hb1⟩; have HX : More (w.alloc (.cells #[.int .i64 s.1.1, .int .i64 s.1.2, .int .i64 s.2.1.1, .int .i64 s.2.1.2, .slice a1 s.2.2.1.length c1, .slice a2 s.2.2.2.1.length c2, .slice a3 s.2.2.2.2.length c3] 34)) _ := More.trans (by assumption) hb1; have HBw := HB _ HX
    rw [T4.out]
    go_wp2_with fail
    refine (containsFunc_valid _ s.2.2.2.1 _ (Ty.at_more F2.out mC) L2.out).mono ?_
    rintro e w3 ⟨rfl, hb1⟩; have HX : More (w.alloc (.cells #[.int .i64 s.1.1, .int .i64 s.1.2, .int .i64 s.2.1.1, .int .i64 s.2.1.2, .slice a1 s.2.2.1.length c1, .slice a2 s.2.2.2.1.length c2, .slice a3 s.2.2.2.2.length c3] 34)) _ := More.trans (by assumption) hb1; have HBw := HB _ HX
    rw [T6.out]
    go_wp2_with fail
    refine (impl_areIn _ s.2.2.2.2 200 _ (by decide) (by decide) (Ty.at_more F3.out mC) L3.out).mono ?_
    rintro e w4 ⟨rfl, hb1⟩; have HX : More (w.alloc (.cells #[.int .i64 s.1.1, .int .i64 s.1.2, .int .i64 s.2.1.1, .int .i64 s.2.1.2, .slice a1 s.2.2.1.length c1, .slice a2 s.2.2.2.1.length c2, .slice a3 s.2.2.2.2.length c3] 34)) _ := More.trans (by assumption) hb1; have HBw := HB _ HX
    go_wp2_with fail
    go_ret
    exact ⟨ret_bool (by rw [HH2.out, decide_eq_true T5.out, small_any, T6.out, decide_eq_true T7.out]; rfl), mC⟩
  · have T7 := Lib.hid t7
    have t7' : ¬ (s.2.2.2.2.length : Int) ≤ 3 := by omega
    have HX : More (w.alloc (.cells #[.int .i64 s.1.1, .int .i64 s.1.2, .int .i64 s.2.1.1, .int .i64 s.2.1.2, .slice a1 s.2.2.1.length c1, .slice a2 s.2.2.2.1.length c2, .slice a3 s.2.2.2.2.length c3] 34)) (w.alloc (.cells #[.int .i64 s.1.1, .int .i64 s.1.2, .int .i64 s.2.1.1, .int .i64 s.2.1.2, .slice a1 s.2.2.1.length c1, .slice a2 s.2.2.2.1.length c2, .slice a3 s.2.2.2.2.length c3] 34)) := More.refl _
    have HB : ∀ w', More (w.alloc (.cells #[.int .i64 s.1.1, .int .i64 s.1.2, .int .i64 s.2.1.1, .int .i64 s.2.1.2, .slice a1 s.2.2.1.length c1, .slice a2 s.2.2.2.1.length c2, .slice a3 s.2.2.2.2.length c3] 34)) w' → w'.cell? ⟨w.heap.size, 0, none⟩ = some (.int .i64 s.1.1) ∧ w'.cell? ⟨w.heap.size, 1, none⟩ = some (.int .i64 s.1.2) ∧ w'.cell? ⟨w.heap.size, 2, none⟩ = some (.int .i64 s.2.1.1) ∧ w'.cell? ⟨w.heap.size, 3, none⟩ = some (.int .i64 s.2.1.2) ∧ w'.cell? ⟨w.heap.size, 4, none⟩ = some (.slice a1 s.2.2.1.length c1) ∧ w'.cell? ⟨w.heap.size, 5, none⟩ = some (.slice a2 s.2.2.2.1.length c2) ∧ w'.cell? ⟨w.heap.size, 6, none⟩ = some (.slice a3 s.2.2.2.2.length c3) ∧ (∀ j, w'.frozen? ⟨w.heap.size, j, none⟩ = false) := fun w' h => ⟨box_new (by simp) h 0, box_new (by simp) h 1, box_new (by simp) h 2, box_new (by simp) h 3, box_new (by simp) h 4, box_new (by simp) h 5, box_new (by simp) h 6, fun j => box_free (by simp) h j⟩
    go_enter Try.func32, Try.ntmps32
    go_wp2_with fail
    refine (impl_areIn _ [s.1, s.2.1] 200 _ (by decide) (by decide) (Ty.fresh_at (lit_fresh fVec (by simp) rfl rfl (by simp) HOK.out)) (by simp)).mono ?_
    rintro e w1 ⟨rfl, hb1⟩; have HX : More (w.alloc (.cells #[.int .i64 s.1.1, .int .i64 s.1.2, .int .i64 s.2.1.1, .int .i64 s.2.1.2, .slice a1 s.2.2.1.length c1, .slice a2 s.2.2.2.1.length c2, .slice a3 s.2.2.2.2.length c3] 34)) w1 := More.un hb1; have HBw := HB _ HX
    rw [T1.out]
    go_wp2_with fail
    refine (impl_isSmall _ s.2.2.1 20 _ (by decide) (by decide) (Ty.at_more F1.out mC) L1.out).mono ?_
    rintro e w2 ⟨rfl, hb1⟩; have HX : More (w.alloc (.cells #[.int .i64 s.1.1, .int .i64 s.1.2, .int .i64 s.2.1.1, .int .i64 s.2.1.2, .slice a1 s.2.2.1.length c1, .slice a2 s.2.2.2.1.length c2, .slice a3 s.2.2.2.2.length c3] 34)) _ := More.trans (by assumption) hb1; have HBw := HB _ HX
    rw [T4.out]
    go_wp2_with fail
    refine (containsFunc_valid _ s.2.2.2.1 _ (Ty.at_more F2.out mC) L2.out).mono ?_
    rintro e w3 ⟨rfl, hb1⟩; have HX : More (w.alloc (.cells #[.int .i64 s.1.1, .int .i64 s.1.2, .int .i64 s.2.1.1, .int .i64 s.2.1.2, .slice a1 s.2.2.1.length c1, .slice a2 s.2.2.2.1.length c2, .slice a3 s.2.2.2.2.length c3] 34)) _ := More.trans (by assumption) hb1; have HBw := HB _ HX
    rw [T6.out]
    go_wp2_with fail
    go_ret
    exact ⟨ret_bool (by rw [HH2.out, decide_eq_true T5.out, small_any, T6.out, decide_eq_false (by have := T7.out; omega)]; rfl), mC⟩
theorem impl_IsValidScene (cs : List Value) (s : QScene) (w : World) (hv : tScene.at w cs s) (hw : wScene s ≤ 1048576) :
    Calls Try.prog 32 #[.agg cs.toArray] w fun e w' => e = .returned (.bool (sceneOk s)) ∧ More w w' :=
  impl_IsValidSceneG cs s w hv (by unfold wScene at hw; omega) (by unfold wScene at hw; omega) (by unfold wScene at hw; omega)
theorem all_false_ {α : Type} {p : α → Bool} {l : List α} {k : Nat} {x : α} (hx : l[k]? = some x) (h : p x = false) : l.all p = false := by
  rw [List.all_eq_false]
  exact ⟨x, List.mem_of_getElem? hx, by simp [h]⟩
set_option maxHeartbeats 1600000 in
theorem spec_l10Inside (v : Value) (l : List QV) (m : Int) (w : World) (h0 : 0 ≤ m) (h1 : m ≤ 1000) (hv : tVecs.at w [v] l) (hl : l.length ≤ 1048576) :
    Calls Try.prog 56 #[v, .int .i64 m] w fun e w' => e = .returned (.bool (areInB m l)) ∧ More w w' := by
  obtain ⟨ao, cap, rfl⟩ := sl_len hv
  have HV := Lib.hid hv; clear hv
  obtain ⟨n, hn⟩ : ∃ n, n = l.length := ⟨_, rfl⟩
  rw [← hn] at HV hl ⊢
  have HN := Lib.hid hn; clear hn
  go_enter Try.func56, Try.ntmps56
  go_wp2_with fail
  go_loopw [9] (fun i wr => ∃ k : Nat, k ≤ n ∧ i = .int .i64 k ∧ More w wr ∧ Hid (∀ (j : Nat) x, j < k → l[j]? = some x → inB m x = true)) (fun i _ => n - (intOf i).toNat)
  case atStart => exact ⟨0, Nat.zero_le _, rfl, More.refl _, Lib.hid (fun j x hj => by omega)⟩
  case round =>
    obtain ⟨k, hk, rfl, hm, HE⟩ := hrel
    by_cases hlt : k < n
    · obtain ⟨b, off, x, y, rfl, hblt, hx, -, -, c0, c1⟩ := vec_el (Ty.at_more HV.out hm) (k := k) (by rw [← HN.out]; exact hlt)
      have HX := Lib.hid hx; clear hx
      rcases Bool.eq_false_or_eq_true (inR x (-m) m) with a | a
      · rcases Bool.eq_false_or_eq_true (inR y (-m) m) with a2 | a2
        all_goals
          have HA := Lib.hid a; have HA2 := Lib.hid a2
          go_wp2_with (go_at_call 67; refine (spec_l01In _ _ _ _).mono ?_; rintro e w1 ⟨rfl, hb1⟩; obtain ⟨hc1, hf1⟩ := bcell hb1; have hz1 := hb1.size; have hs1 : wr.heap.size < w1.heap.size := (by (try simp at hz1); omega))
        · go_roundw
          case rel => exact ⟨k + 1, by omega, by go_num, mC, Lib.hid (fun j z hj hz => by
            rcases Nat.lt_succ_iff_lt_or_eq.1 hj with h | rfl
            · exact HE.out j z h hz
            · rw [HX.out] at hz; cases hz; simp [inB, HA.out, HA2.out])⟩
          case measure => simp [intOf]; omega
        · go_ret
          exact ⟨ret_bool (all_false_ (p := inB m) HX.out (by simp [inB, HA.out, HA2.out])).symm, mC⟩
      · have HA := Lib.hid a
        go_wp2_with (go_at_call 67; refine (spec_l01In _ _ _ _).mono ?_; rintro e w1 ⟨rfl, hb1⟩; obtain ⟨hc1, hf1⟩ := bcell hb1; have hz1 := hb1.size; have hs1 : wr.heap.size < w1.heap.size := (by (try simp at hz1); omega))
        go_ret
        exact ⟨ret_bool (all_false_ (p := inB m) HX.out (by simp [inB, HA.out])).symm, mC⟩
    · go_wp2_with fail
      go_ret
      obtain rfl : k = n := by omega
      exact ⟨ret_bool (by
        symm
        rw [areInB, List.all_eq_true]
        intro x hx
        obtain ⟨j, hj, rfl⟩ := List.getElem_of_mem hx
        exact HE.out j _ (by have := HN.out; omega) (List.getElem?_eq_getElem hj)), hm⟩
set_option maxHeartbeats 1600000 in
theorem spec_l10Shape (v : Value) (l : List QV) (m : Int) (w : World) (h0 : 0 ≤ m) (h1 : m ≤ 1000) (hv : tVecs.at w [v] l) (hl : l.length ≤ 1048576) :
    Calls Try.prog 57 #[v, .int .i64 m] w fun e w' => e = .returned (.bool (smallB m l)) ∧ More w w' := by
  have HV := Lib.hid hv; have HL := Lib.hid hl
  obtain ⟨ao, cap, rfl⟩ := sl_len hv
  clear hv
  rcases Bool.eq_false_or_eq_true (isPoly l) with p | p
  · have HP := Lib.hid p
    by_cases h5 : l.length ≤ 5
    all_goals
      have H5 := Lib.hid h5
      go_enter Try.func57, Try.ntmps57
      go_wp2_with (first | (go_at_call 68; refine (spec_IsPolygon _ l _ (Ty.at_more HV.out mC) HL.out).mono ?_; rintro e w1 ⟨rfl, hb1⟩) | (go_at_call 56; refine (spec_l10Inside _ l m _ h0 h1 (Ty.at_more HV.out mC) HL.out).mono ?_; rintro e w2 ⟨rfl, hb2⟩))
      go_ret
      exact ⟨ret_bool (by have := H5.out; rw [smallB, HP.out]; simp [*]), mC⟩
  · have HP := Lib.hid p
    go_enter Try.func57, Try.ntmps57
    go_wp2_with (first | (go_at_call 68; refine (spec_IsPolygon _ l _ (Ty.at_more HV.out mC) HL.out).mono ?_; rintro e w1 ⟨rfl, hb1⟩))
    go_ret
    exact ⟨ret_bool (by rw [smallB, HP.out]; simp), mC⟩
set_option maxHeartbeats 6400000 in
theorem spec_IsValidSceneG (cs : List Value) (s : QScene) (w : World) (hv : tScene.at w cs s) (hw1 : wVecS s.2.2.1 ≤ 1048576) (hw2 : wVecSS s.2.2.2.1 ≤ 1048577) (hw3 : wVecS s.2.2.2.2 ≤ 1048576) :
    Calls Try.prog 29 #[.agg cs.toArray] w fun e w' => e = .returned (.bool (sceneOk s)) ∧ More w w' := by
  obtain ⟨k0, d0, rfl, f0, e0⟩ := at_prod hv
  obtain ⟨k1, d1, rfl, f1, e1⟩ := at_prod e0
  obtain ⟨k2, d2, rfl, f2, e2⟩ := at_prod e1
  obtain ⟨k3, d3, rfl, f3, f4⟩ := at_prod e2
  have hok : ∀ x ∈ [s.1, s.2.1], fVec.ok x := by
    intro x hx
    simp only [List.mem_cons, List.not_mem_nil, or_false] at hx
    rcases hx with rfl | rfl
    · exact (flat_at fVec f0).2
    · exact (flat_at fVec f1).2
  obtain rfl := sh_Vec f0; obtain rfl := sh_Vec f1
  obtain ⟨a1, c1, rfl⟩ := sh_sliceL f2; obtain ⟨a2, c2, rfl⟩ := sh_sliceL f3; obtain ⟨a3, c3, rfl⟩ := sh_sliceL f4
  have HOK := Lib.hid hok; have F1 := Lib.hid f2; have F2 := Lib.hid f3; have F3 := Lib.hid f4
  have L1 : Hid (s.2.2.1.length ≤ 1048576) := Lib.hid hw1
  have L2 : Hid (wVecSS s.2.2.2.1 ≤ 1048577) := Lib.hid hw2
  have L3 : Hid (s.2.2.2.2.length ≤ 1048576) := Lib.hid hw3
  have ll2 : s.2.2.2.1.length ≤ 1048577 := by have := L2.out; unfold wVecSS at this; omega
  have ll3 : s.2.2.2.2.length ≤ 1048576 := L3.out
  clear hv hw1 hw2 hw3 hok f0 f1 f2 f3 f4 e0 e1 e2
  show Calls Try.prog 29 #[.agg #[.int .i64 s.1.1, .int .i64 s.1.2, .int .i64 s.2.1.1, .int .i64 s.2.1.2, .slice a1 s.2.2.1.length c1, .slice a2 s.2.2.2.1.length c2, .slice a3 s.2.2.2.2.length c3]] w _
  rcases Bool.eq_false_or_eq_true (areInB 200 [s.1, s.2.1]) with t1 | t1
  rotate_left
  · have T1 := Lib.hid t1; clear t1
    have HX : More (w.alloc (.cells #[.int .i64 s.1.1, .int .i64 s.1.2, .int .i64 s.2.1.1, .int .i64 s.2.1.2, .slice a1 s.2.2.1.length c1, .slice a2 s.2.2.2.1.length c2, .slice a3 s.2.2.2.2.length c3] 34)) (w.alloc (.cells #[.int .i64 s.1.1, .int .i64 s.1.2, .int .i64 s.2.1.1, .int .i64 s.2.1.2, .slice a1 s.2.2.1.length c1, .slice a2 s.2.2.2.1.length c2, .slice a3 s.2.2.2.2.length c3] 34)) := More.refl _
    have HB : ∀ w', More (w.alloc (.cells #[.int .i64 s.1.1, .int .i64 s.1.2, .int .i64 s.2.1.1, .int .i64 s.2.1.2, .slice a1 s.2.2.1.length c1, .slice a2 s.2.2.2.1.length c2, .slice a3 s.2.2.2.2.length c3] 34)) w' → w'.cell? ⟨w.heap.size, 0, none⟩ = some (.int .i64 s.1.1) ∧ w'.cell? ⟨w.heap.size, 1, none⟩ = some (.int .i64 s.1.2) ∧ w'.cell? ⟨w.heap.size, 2, none⟩ = some (.int .i64 s.2.1.1) ∧ w'.cell? ⟨w.heap.size, 3, none⟩ = some (.int .i64 s.2.1.2) ∧ w'.cell? ⟨w.heap.size, 4, none⟩ = some (.slice a1 s.2.2.1.length c1) ∧ w'.cell? ⟨w.heap.size, 5, none⟩ = some (.slice a2 s.2.2.2.1.length c2) ∧ w'.cell? ⟨w.heap.size, 6, none⟩ = some (.slice a3 s.2.2.2.2.length c3) ∧ (∀ j, w'.frozen? ⟨w.heap.size, j, none⟩ = false) := fun w' h => ⟨box_new (by simp) h 0, box_new (by simp) h 1, box_new (by simp) h 2, box_new (by simp) h 3, box_new (by simp) h 4, box_new (by simp) h 5, box_new (by simp) h 6, fun j => box_free (by simp) h j⟩
    go_enter Try.func29, Try.ntmps29
    go_wp2_with fail
    refine (spec_l10Inside _ [s.1, s.2.1] 200 _ (by decide) (by decide) (Ty.fresh_at (lit_fresh fVec (by simp) rfl rfl (by simp) HOK.out)) (by simp)).mono ?_
    rintro e w1 ⟨rfl, hb1⟩; have HX : More (w.alloc (.cells #[.int .i64 s.1.1, .int .i64 s.1.2, .int .i64 s.2.1.1, .int .i64 s.2.1.2, .slice a1 s.2.2.1.length c1, .slice a2 s.2.2.2.1.length c2, .slice a3 s.2.2.2.2.length c3] 34)) w1 := More.un hb1; have HBw := HB _ HX
    rw [T1.out]
    go_wp2_with fail
    go_ret
    exact ⟨ret_bool (by rw [sceneOk, T1.out]; rfl), mC⟩
  have T1 := Lib.hid t1; clear t1
  by_cases t2 : s.1.1 < s.2.1.1
  rotate_left
  · have T2 := Lib.hid t2
    have HX : More (w.alloc (.cells #[.int .i64 s.1.1, .int .i64 s.1.2, .int .i64 s.2.1.1, .int .i64 s.2.1.2, .slice a1 s.2.2.1.length c1, .slice a2 s.2.2.2.1.length c2, .slice a3 s.2.2.2.2.length c3] 34)) (w.alloc (.cells #[.int .i64 s.1.1, .int .i64 s.1.2, .int .i64 s.2.1.1, .int .i64 s.2.1.2, .slice a1 s.2.2.1.length c1, .slice a2 s.2.2.2.1.length c2, .slice a3 s.2.2.2.2.length c3] 34)) := More.refl _
    have HB : ∀ w', More (w.alloc (.cells #[.int .i64 s.1.1, .int .i64 s.1.2, .int .i64 s.2.1.1, .int .i64 s.2.1.2, .slice a1 s.2.2.1.length c1, .slice a2 s.2.2.2.1.length c2, .slice a3 s.2.2.2.2.length c3] 34)) w' → w'.cell? ⟨w.heap.size, 0, none⟩ = some (.int .i64 s.1.1) ∧ w'.cell? ⟨w.heap.size, 1, none⟩ = some (.int .i64 s.1.2) ∧ w'.cell? ⟨w.heap.size, 2, none⟩ = some (.int .i64 s.2.1.1) ∧ w'.cell? ⟨w.heap.size, 3, none⟩ = some (.int .i64 s.2.1.2) ∧ w'.cell? ⟨w.heap.size, 4, none⟩ = some (.slice a1 s.2.2.1.length c1) ∧ w'.cell? ⟨w.heap.size, 5, none⟩ = some (.slice a2 s.2.2.2.1.length c2) ∧ w'.cell? ⟨w.heap.size, 6, none⟩ = some (.slice a3 s.2.2.2.2.length c3) ∧ (∀ j, w'.frozen? ⟨w.heap.size, j, none⟩ = false) := fun w' h => ⟨box_new (by simp) h 0, box_new (by simp) h 1, box_new (by simp) h 2, box_new (by simp) h 3, box_new (by simp) h 4, box_new (by simp) h 5, box_new (by simp) h 6, fun j => box_free (by simp) h j⟩
    go_enter Try.func29, Try.ntmps29
    go_wp2_with fail
    refine (spec_l10Inside _ [s.1, s.2.1] 200 _ (by decide) (by decide) (Ty.fresh_at (lit_fresh fVec (by simp) rfl rfl (by simp) HOK.out)) (by simp)).mono ?_
    rintro e w1 ⟨rfl, hb1⟩; have HX : More (w.alloc (.cells #[.int .i64 s.1.1, .int .i64 s.1.2, .int .i64 s.2.1.1, .int .i64 s.2.1.2, .slice a1 s.2.2.1.length c1, .slice a2 s.2.2.2.1.length c2, .slice a3 s.2.2.2.2.length c3] 34)) w1 := More.un hb1; have HBw := HB _ HX
    rw [T1.out]
    go_wp2_with fail
    go_ret
    exact ⟨ret_bool (by rw [sceneOk, T1.out, decide_eq_false (by have := T2.out; omega)]; rfl), mC⟩
  by_cases t3 : s.1.2 < s.2.1.2
  rotate_left
  · have T2 := Lib.hid t2; have T3 := Lib.hid t3
    have HX : More (w.alloc (.cells #[.int .i64 s.1.1, .int .i64 s.1.2, .int .i64 s.2.1.1, .int .i64 s.2.1.2, .slice a1 s.2.2.1.length c1, .slice a2 s.2.2.2.1.length c2, .slice a3 s.2.2.2.2.length c3] 34)) (w.alloc (.cells #[.int .i64 s.1.1, .int .i64 s.1.2, .int .i64 s.2.1.1, .int .i64 s.2.1.2, .slice a1 s.2.2.1.length c1, .slice a2 s.2.2.2.1.length c2, .slice a3 s.2.2.2.2.length c3] 34)) := More.refl _
    have HB : ∀ w', More (w.alloc (.cells #[.int .i64 s.1.1, .int .i64 s.1.2, .int .i64 s.2.1.1, .int .i64 s.2.1.2, .slice a1 s.2.2.1.length c1, .slice a2 s.2.2.2.1.length c2, .slice a3 s.2.2.2.2.length c3] 34)) w' → w'.cell? ⟨w.heap.size, 0, none⟩ = some (.int .i64 s.1.1) ∧ w'.cell? ⟨w.heap.size, 1, none⟩ = some (.int .i64 s.1.2) ∧ w'.cell? ⟨w.heap.size, 2, none⟩ = some (.int .i64 s.2.1.1) ∧ w'.cell? ⟨w.heap.size, 3, none⟩ = some (.int .i64 s.2.1.2) ∧ w'.cell? ⟨w.heap.size, 4, none⟩ = some (.slice a1 s.2.2.1.length c1) ∧ w'.cell? ⟨w.heap.size, 5, none⟩ = some (.slice a2 s.2.2.2.1.length c2) ∧ w'.cell? ⟨w.heap.size, 6, none⟩ = some (.slice a3 s.2.2.2.2.length c3) ∧ (∀ j, w'.frozen? ⟨w.heap.size, j, none⟩ = false) := fun w' h => ⟨box_new (by simp) h 0, box_new (by simp) h 1, box_new (by simp) h 2, box_new (by simp) h 3, box_new (by simp) h 4, box_new (by simp) h 5, box_new (by simp) h 6, fun j => box_free (by simp) h j⟩
    go_enter Try.func29, Try.ntmps29
    go_wp2_with fail
    refine (spec_l10Inside _ [s.1, s.2.1] 200 _ (by decide) (by decide) (Ty.fresh_at (lit_fresh fVec (by simp) rfl rfl (by simp) HOK.out)) (by simp)).mono ?_
    rintro e w1 ⟨rfl, hb1⟩; have HX : More (w.alloc (.cells #[.int .i64 s.1.1, .int .i64 s.1.2, .int .i64 s.2.1.1, .int .i64 s.2.1.2, .slice a1 s.2.2.1.length c1, .slice a2 s.2.2.2.1.length c2, .slice a3 s.2.2.2.2.length c3] 34)) w1 := More.un hb1; have HBw := HB _ HX
    rw [T1.out]
    go_wp2_with fail
    go_ret
    exact ⟨ret_bool (by rw [sceneOk, T1.out, decide_eq_true T2.out, decide_eq_false (by have := T3.out; omega)]; rfl), mC⟩
  have HH : Hid (sceneOk s = (smallB 20 s.2.2.1 && decide (s.2.2.2.1.length ≤ 4) && s.2.2.2.1.all (smallB 200) && decide (s.2.2.2.2.length ≤ 3) && areInB 200 s.2.2.2.2)) := Lib.hid (by rw [sceneOk, T1.out, decide_eq_true t2, decide_eq_true t3]; rfl)
  rcases Bool.eq_false_or_eq_true (smallB 20 s.2.2.1) with t4 | t4
  rotate_left
  · have T4 := Lib.hid t4; clear t4
    have HX : More (w.alloc (.cells #[.int .i64 s.1.1, .int .i64 s.1.2, .int .i64 s.2.1.1, .int .i64 s.2.1.2, .slice a1 s.2.2.1.length c1, .slice a2 s.2.2.2.1.length c2, .slice a3 s.2.2.2.2.length c3] 34)) (w.alloc (.cells #[.int .i64 s.1.1, .int .i64 s.1.2, .int .i64 s.2.1.1, .int .i64 s.2.1.2, .slice a1 s.2.2.1.length c1, .slice a2 s.2.2.2.1.length c2, .slice a3 s.2.2.2.2.length c3] 34)) := More.refl _
    have HB : ∀ w', More (w.alloc (.cells #[.int .i64 s.1.1, .int .i64 s.1.2, .int .i64 s.2.1.1, .int .i64 s.2.1.2, .slice a1 s.2.2.1.length c1, .slice a2 s.2.2.2.1.length c2, .slice a3 s.2.2.2.2.length c3] 34)) w' → w'.cell? ⟨w.heap.size, 0, none⟩ = some (.int .i64 s.1.1) ∧ w'.cell? ⟨w.heap.size, 1, none⟩ = some (.int .i64 s.1.2) ∧ w'.cell? ⟨w.heap.size, 2, none⟩ = some (.int .i64 s.2.1.1) ∧ w'.cell? ⟨w.heap.size, 3, none⟩ = some (.int .i64 s.2.1.2) ∧ w'.cell? ⟨w.heap.size, 4, none⟩ = some (.slice a1 s.2.2.1.length c1) ∧ w'.cell? ⟨w.heap.size, 5, none⟩ = some (.slice a2 s.2.2.2.1.length c2) ∧ w'.cell? ⟨w.heap.size, 6, none⟩ = some (.slice a3 s.2.2.2.2.length c3) ∧ (∀ j, w'.frozen? ⟨w.heap.size, j, none⟩ = false) := fun w' h => ⟨box_new (by simp) h 0, box_new (by simp) h 1, box_new (by simp) h 2, box_new (by simp) h 3, box_new (by simp) h 4, box_new (by simp) h 5, box_new (by simp) h 6, fun j => box_free (by simp) h j⟩
    go_enter Try.func29, Try.ntmps29
    go_wp2_with fail
    refine (spec_l10Inside _ [s.1, s.2.1] 200 _ (by decide) (by decide) (Ty.fresh_at (lit_fresh fVec (by simp) rfl rfl (by simp) HOK.out)) (by simp)).mono ?_
    rintro e w1 ⟨rfl, hb1⟩; have HX : More (w.alloc (.cells #[.int .i64 s.1.1, .int .i64 s.1.2, .int .i64 s.2.1.1, .int .i64 s.2.1.2, .slice a1 s.2.2.1.length c1, .slice a2 s.2.2.2.1.length c2, .slice a3 s.2.2.2.2.length c3] 34)) w1 := More.un hb1; have HBw := HB _ HX
    rw [T1.out]
    go_wp2_with fail
    refine (spec_l10Shape _ s.2.2.1 20 _ (by decide) (by decide) (Ty.at_more F1.out mC) L1.out).mono ?_
    rintro e w2 ⟨rfl, hb1⟩; have HX : More (w.alloc (.cells #[.int .i64 s.1.1, .int .i64 s.1.2, .int .i64 s.2.1.1, .int .i64 s.2.1.2, .slice a1 s.2.2.1.length c1, .slice a2 s.2.2.2.1.length c2, .slice a3 s.2.2.2.2.length c3] 34)) _ := More.trans (by assumption) hb1; have HBw := HB _ HX
    rw [T4.out]
    go_wp2_with fail
    go_ret
    exact ⟨ret_bool (by rw [HH.out, T4.out]; rfl), mC⟩
  have T4 := Lib.hid t4; clear t4
  have HH2 : Hid (sceneOk s = (decide (s.2.2.2.1.length ≤ 4) && s.2.2.2.1.all (smallB 200) && decide (s.2.2.2.2.length ≤ 3) && areInB 200 s.2.2.2.2)) := Lib.hid (by rw [HH.out, T4.out]; rfl)
  clear HH
  have HX : More (w.alloc (.cells #[.int .i64 s.1.1, .int .i64 s.1.2, .int .i64 s.2.1.1, .int .i64 s.2.1.2, .slice a1 s.2.2.1.length c1, .slice a2 s.2.2.2.1.length c2, .slice a3 s.2.2.2.2.length c3] 34)) (w.alloc (.cells #[.int .i64 s.1.1, .int .i64 s.1.2, .int .i64 s.2.1.1, .int .i64 s.2.1.2, .slice a1 s.2.2.1.length c1, .slice a2 s.2.2.2.1.length c2, .slice a3 s.2.2.2.2.length c3] 34)) := More.refl _
  have HB : ∀ w', More (w.alloc (.cells #[.int .i64 s.1.1, .int .i64 s.1.2, .int .i64 s.2.1.1, .int .i64 s.2.1.2, .slice a1 s.2.2.1.length c1, .slice a2 s.2.2.2.1.length c2, .slice a3 s.2.2.2.2.length c3] 34)) w' → w'.cell? ⟨w.heap.size, 0, none⟩ = some (.int .i64 s.1.1) ∧ w'.cell? ⟨w.heap.size, 1, none⟩ = some (.int .i64 s.1.2) ∧ w'.cell? ⟨w.heap.size, 2, none⟩ = some (.int .i64 s.2.1.1) ∧ w'.cell? ⟨w.heap.size, 3, none⟩ = some (.int .i64 s.2.1.2) ∧ w'.cell? ⟨w.heap.size, 4, none⟩ = some (.slice a1 s.2.2.1.length c1) ∧ w'.cell? ⟨w.heap.size, 5, none⟩ = some (.slice a2 s.2.2.2.1.length c2) ∧ w'.cell? ⟨w.heap.size, 6, none⟩ = some (.slice a3 s.2.2.2.2.length c3) ∧ (∀ j, w'.frozen? ⟨w.heap.size, j, none⟩ = false) := fun w' h => ⟨box_new (by simp) h 0, box_new (by simp) h 1, box_new (by simp) h 2, box_new (by simp) h 3, box_new (by simp) h 4, box_new (by simp) h 5, box_new (by simp) h 6, fun j => box_free (by simp) h j⟩
  go_enter Try.func29, Try.ntmps29
  go_wp2_with fail
  refine (spec_l10Inside _ [s.1, s.2.1] 200 _ (by decide) (by decide) (Ty.fresh_at (lit_fresh fVec (by simp) rfl rfl (by simp) HOK.out)) (by simp)).mono ?_
  rintro e w1 ⟨rfl, hb1⟩; have HX : More (w.alloc (.cells #[.int .i64 s.1.1, .int .i64 s.1.2, .int .i64 s.2.1.1, .int .i64 s.2.1.2, .slice a1 s.2.2.1.length c1, .slice a2 s.2.2.2.1.length c2, .slice a3 s.2.2.2.2.length c3] 34)) w1 := More.un hb1; have HBw := HB _ HX
  rw [T1.out]
  go_wp2_with fail
  refine (spec_l10Shape _ s.2.2.1 20 _ (by decide) (by decide) (Ty.at_more F1.out mC) L1.out).mono ?_
  rintro e w2 ⟨rfl, hb1⟩; have HX : More (w.alloc (.cells #[.int .i64 s.1.1, .int .i64 s.1.2, .int .i64 s.2.1.1, .int .i64 s.2.1.2, .slice a1 s.2.2.1.length c1, .slice a2 s.2.2.2.1.length c2, .slice a3 s.2.2.2.2.length c3] 34)) _ := More.trans (by assumption) hb1; have HBw := HB _ HX
  rw [T4.out]
  go_wp2_with fail
  have HX0 := Lib.hid HX
  go_loopw [39] (fun i wr => ∃ k : Nat, k ≤ s.2.2.2.1.length ∧ i = .int .i64 k ∧ More (w.alloc (.cells #[.int .i64 s.1.1, .int .i64 s.1.2, .int .i64 s.2.1.1, .int .i64 s.2.1.2, .slice a1 s.2.2.1.length c1, .slice a2 s.2.2.2.1.length c2, .slice a3 s.2.2.2.2.length c3] 34)) wr ∧ Hid (∀ (j : Nat) x, j < k → s.2.2.2.1[j]? = some x → smallB 200 x = true)) (fun i _ => s.2.2.2.1.length - (intOf i).toNat)
  case atStart => exact ⟨0, Nat.zero_le _, rfl, mC, Lib.hid (fun j x hj => by omega)⟩
  case round =>
    clear HX HBw
    obtain ⟨k, hk, rfl, hmr, HE⟩ := hrel
    have HMW := Lib.hid (More.trans (show More w (w.alloc (.cells #[.int .i64 s.1.1, .int .i64 s.1.2, .int .i64 s.2.1.1, .int .i64 s.2.1.2, .slice a1 s.2.2.1.length c1, .slice a2 s.2.2.2.1.length c2, .slice a3 s.2.2.2.2.length c3] 34)) from mC) hmr)
    have HBw := HB _ hmr
    by_cases hlt : k < s.2.2.2.1.length
    · obtain ⟨b, off, x, p1, p2, p3, hadr, hblt, hx, hat, c0⟩ := el_VecS (Ty.at_more F2.out HMW.out) (k := k) hlt
      subst hadr
      have HXx := Lib.hid hx; have HA := Lib.hid hat; clear hx hat
      have HLx : Hid (x.length ≤ 1048576) := Lib.hid (show wVecS x ≤ 1048576 by have := wsum_el (f := wVecS) HXx.out; have := (List.getElem?_eq_some_iff.1 HXx.out).1; have := L2.out; unfold wVecSS at this; omega)
      rcases Bool.eq_false_or_eq_true (smallB 200 x) with hd | hd
      all_goals
        have HD := Lib.hid hd
        go_wp2_with fail
        refine (spec_l10Shape _ x 200 _ (by decide) (by decide) (Ty.at_more HA.out mC) HLx.out).mono ?_
        rintro e w3 ⟨rfl, hb3⟩
        rw [HD.out]
        go_wp2_with fail
      · go_roundw
        case rel => exact ⟨k + 1, by omega, by go_num, More.trans hmr mC, Lib.hid (fun j y hj hy => by
          rcases Nat.lt_succ_iff_lt_or_eq.1 hj with h | rfl
          · exact HE.out j y h hy
          · rw [HXx.out] at hy; cases hy; exact HD.out)⟩
        case measure => simp [intOf]; omega
      · go_ret
        exact ⟨ret_bool (by rw [HH2.out, all_false_ HXx.out HD.out]; simp), More.trans HMW.out mC⟩
    · have HALL : Hid (s.2.2.2.1.all (smallB 200) = true) := Lib.hid (by
        rw [List.all_eq_true]
        intro x hx
        obtain ⟨j, hj, rfl⟩ := List.getElem_of_mem hx
        exact HE.out j _ (by omega) (List.getElem?_eq_getElem hj))
      by_cases t5 : s.2.2.2.1.length ≤ 4
      · have T5 := Lib.hid t5
        have t5' : (s.2.2.2.1.length : Int) ≤ 4 := by omega
        by_cases t7 : s.2.2.2.2.length ≤ 3
        · have T7 := Lib.hid t7
          have t7' : (s.2.2.2.2.length : Int) ≤ 3 := by omega
          go_wp2_with fail
          refine (spec_l10Inside _ s.2.2.2.2 200 _ (by decide) (by decide) (Ty.at_more F3.out (More.trans HMW.out mC)) L3.out).mono ?_
          rintro e w4 ⟨rfl, hb4⟩
          go_wp2_with fail
          go_ret
          exact ⟨ret_bool (by rw [HH2.out, HALL.out, decide_eq_true T5.out, decide_eq_true T7.out]; rfl), More.trans HMW.out mC⟩
        · have T7 := Lib.hid t7
          have t7' : ¬ (s.2.2.2.2.length : Int) ≤ 3 := by omega
          go_wp2_with fail
          go_ret
          exact ⟨ret_bool (by rw [HH2.out, HALL.out, decide_eq_true T5.out, decide_eq_false (by have := T7.out; omega)]; rfl), More.trans HMW.out mC⟩
      · have T5 := Lib.hid t5
        have t5' : ¬ (s.2.2.2.1.length : Int) ≤ 4 := by omega
        go_wp2_with fail
        go_ret
        exact ⟨ret_bool (by rw [HH2.out, decide_eq_false (by have := T5.out; omega)]; simp), More.trans HMW.out mC⟩
theorem spec_IsValidScene (cs : List Value) (s : QScene) (w : World) (hv : tScene.at w cs s) (hw : wScene s ≤ 1048576) :
    Calls Try.prog 29 #[.agg cs.toArray] w fun e w' => e = .returned (.bool (sceneOk s)) ∧ More w w' :=
  spec_IsValidSceneG cs s w hv (by unfold wScene at hw; omega) (by unfold wScene at hw; omega) (by unfold wScene at hw; omega)
end Go.Proofs.Ytnndjbomfcacfaa
