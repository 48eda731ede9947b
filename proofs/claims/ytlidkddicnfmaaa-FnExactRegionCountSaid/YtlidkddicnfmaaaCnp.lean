/- CountParts: how many different parts the cells of a slice have: the reference's and the program's. -/
import Derived.Test.YtlidkddicnfmaaaSrt
import Derived.Test.YtlidkddicnfmaaaGVec
import Derived.Deep.RegionHeld3
namespace Go.Proofs.Ytlidkddicnfmaaa
open Go.RowKit Go.Shelf Go.Sort
set_option maxRecDepth 8000 in
set_option maxHeartbeats 6400000 in
theorem impl_CountParts (cs : List Value) (x : QSlice) (w : World) (hv : tSlc.at w cs x) (hw : wSlice x ≤ 1048576) :
    Calls Try.prog 49 #[.agg cs.toArray] w fun e w' => e = .returned (.int .i64 (ndc x.2.2.2.2.2.2.2 : Nat)) ∧ More w w' := by
  obtain ⟨k0, d0, rfl, f0, e0⟩ := at_prod hv
  obtain ⟨k1, d1, rfl, f1, e1⟩ := at_prod e0
  obtain ⟨k2, d2, rfl, f2, e2⟩ := at_prod e1
  obtain ⟨k3, d3, rfl, f3, e3⟩ := at_prod e2
  obtain ⟨k4, d4, rfl, f4, e4⟩ := at_prod e3
  obtain ⟨k5, d5, rfl, f5, e5⟩ := at_prod e4
  obtain ⟨k6, d6, rfl, f6, e6⟩ := at_prod e5
  have f7 := e6; clear e6
  obtain rfl := sh_int f0
  obtain rfl := sh_bool f1
  obtain rfl := sh_Box f2
  obtain ⟨z3a0, z3n0, z3c0, rfl⟩ := sh_slice f3
  obtain ⟨z4a0, z4n0, z4c0, rfl⟩ := sh_slice f4
  obtain ⟨z5a0, z5n0, z5c0, rfl⟩ := sh_slice f5
  obtain ⟨z6a0, z6n0, z6c0, rfl⟩ := sh_slice f6
  obtain ⟨z7a0, z7n0, z7c0, rfl⟩ := sh_slice f7
  obtain ⟨ao7, cap7, e7⟩ := sl_len (show tInts.at w [.slice z7a0 z7n0 z7c0] x.2.2.2.2.2.2.2 from f7)
  cases e7
  obtain ⟨l, el⟩ : ∃ l, l = x.2.2.2.2.2.2.2 := ⟨_, rfl⟩
  have hl : l.length ≤ 1048576 := by rw [el]; have h := hw; unfold wSlice wIntS at h; omega
  have F7 : Hid (tInts.at w [.slice z7a0 l.length z7c0] l) := Lib.hid (by rw [el]; exact f7)
  rw [← el]
  clear f0 f1 f2 f3 f4 f5 f6 f7 e0 e1 e2 e3 e4 e5 hw hv
  generalize x.1 = y0, x.2.1 = y1, x.2.2.1.1.1 = y2, x.2.2.1.1.2 = y3, x.2.2.1.2.1 = y4, x.2.2.1.2.2 = y5
  clear el
  show Calls Try.prog 49 #[.agg #[.int .i64 y0, .bool y1, .int .i64 y2, .int .i64 y3, .int .i64 y4, .int .i64 y5, .slice z3a0 z3n0 z3c0, .slice z4a0 z4n0 z4c0, .slice z5a0 z5n0 z5c0, .slice z6a0 z6n0 z6c0, .slice z7a0 l.length z7c0]] w _
  cases z7a0 with
  | none =>
    have h0 : l = [] := by
      obtain ⟨ao', cap', h0, q1, q2, q3, _⟩ := slRd_at F7.out
      simp at h0
      obtain ⟨rfl, h1, rfl⟩ := h0
      have := q3 rfl
      exact List.eq_nil_of_length_eq_zero (by omega)
    subst h0
    have HX : More (w.alloc (.cells #[.int .i64 y0, .bool y1, .int .i64 y2, .int .i64 y3, .int .i64 y4, .int .i64 y5, .slice z3a0 z3n0 z3c0, .slice z4a0 z4n0 z4c0, .slice z5a0 z5n0 z5c0, .slice z6a0 z6n0 z6c0, .slice none 0 z7c0] 74)) (w.alloc (.cells #[.int .i64 y0, .bool y1, .int .i64 y2, .int .i64 y3, .int .i64 y4, .int .i64 y5, .slice z3a0 z3n0 z3c0, .slice z4a0 z4n0 z4c0, .slice z5a0 z5n0 z5c0, .slice z6a0 z6n0 z6c0, .slice none 0 z7c0] 74)) := More.refl _
    have HB : ∀ w', More (w.alloc (.cells #[.int .i64 y0, .bool y1, .int .i64 y2, .int .i64 y3, .int .i64 y4, .int .i64 y5, .slice z3a0 z3n0 z3c0, .slice z4a0 z4n0 z4c0, .slice z5a0 z5n0 z5c0, .slice z6a0 z6n0 z6c0, .slice none 0 z7c0] 74)) w' → w'.cell? ⟨w.heap.size, 0, none⟩ = some (.int .i64 y0) ∧ w'.cell? ⟨w.heap.size, 1, none⟩ = some (.bool y1) ∧ w'.cell? ⟨w.heap.size, 2, none⟩ = some (.int .i64 y2) ∧ w'.cell? ⟨w.heap.size, 3, none⟩ = some (.int .i64 y3) ∧ w'.cell? ⟨w.heap.size, 4, none⟩ = some (.int .i64 y4) ∧ w'.cell? ⟨w.heap.size, 5, none⟩ = some (.int .i64 y5) ∧ w'.cell? ⟨w.heap.size, 6, none⟩ = some (.slice z3a0 z3n0 z3c0) ∧ w'.cell? ⟨w.heap.size, 7, none⟩ = some (.slice z4a0 z4n0 z4c0) ∧ w'.cell? ⟨w.heap.size, 8, none⟩ = some (.slice z5a0 z5n0 z5c0) ∧ w'.cell? ⟨w.heap.size, 9, none⟩ = some (.slice z6a0 z6n0 z6c0) ∧ w'.cell? ⟨w.heap.size, 10, none⟩ = some (.slice none 0 z7c0) ∧ (∀ j, w'.frozen? ⟨w.heap.size, j, none⟩ = false) := fun w' h => ⟨box_new (by simp) h 0, box_new (by simp) h 1, box_new (by simp) h 2, box_new (by simp) h 3, box_new (by simp) h 4, box_new (by simp) h 5, box_new (by simp) h 6, box_new (by simp) h 7, box_new (by simp) h 8, box_new (by simp) h 9, box_new (by simp) h 10, fun j => box_free (by simp) h j⟩
    go_enter Try.func49, Try.ntmps49
    go_wp2_with (first | (go_at_call 70; refine (Any.slices_Clone_int_nil laysClone 0 z7c0 _).mono ?_; rintro e w1 ⟨rfl, rfl⟩) | (go_at_call 122; refine (Any.slices_Sort_int_none laysSort none 0 _).mono ?_; rintro e w1 ⟨rfl, rfl⟩) | (go_at_call 123; refine (Any.slices_Compact_int_empty laysCompact none 0 _).mono ?_; rintro e w1 ⟨rfl, rfl⟩))
    go_ret
    exact ⟨rfl, mC⟩
  | some ad =>
    have HX : More (w.alloc (.cells #[.int .i64 y0, .bool y1, .int .i64 y2, .int .i64 y3, .int .i64 y4, .int .i64 y5, .slice z3a0 z3n0 z3c0, .slice z4a0 z4n0 z4c0, .slice z5a0 z5n0 z5c0, .slice z6a0 z6n0 z6c0, .slice (some ad) l.length z7c0] 74)) (w.alloc (.cells #[.int .i64 y0, .bool y1, .int .i64 y2, .int .i64 y3, .int .i64 y4, .int .i64 y5, .slice z3a0 z3n0 z3c0, .slice z4a0 z4n0 z4c0, .slice z5a0 z5n0 z5c0, .slice z6a0 z6n0 z6c0, .slice (some ad) l.length z7c0] 74)) := More.refl _
    have HB : ∀ w', More (w.alloc (.cells #[.int .i64 y0, .bool y1, .int .i64 y2, .int .i64 y3, .int .i64 y4, .int .i64 y5, .slice z3a0 z3n0 z3c0, .slice z4a0 z4n0 z4c0, .slice z5a0 z5n0 z5c0, .slice z6a0 z6n0 z6c0, .slice (some ad) l.length z7c0] 74)) w' → w'.cell? ⟨w.heap.size, 0, none⟩ = some (.int .i64 y0) ∧ w'.cell? ⟨w.heap.size, 1, none⟩ = some (.bool y1) ∧ w'.cell? ⟨w.heap.size, 2, none⟩ = some (.int .i64 y2) ∧ w'.cell? ⟨w.heap.size, 3, none⟩ = some (.int .i64 y3) ∧ w'.cell? ⟨w.heap.size, 4, none⟩ = some (.int .i64 y4) ∧ w'.cell? ⟨w.heap.size, 5, none⟩ = some (.int .i64 y5) ∧ w'.cell? ⟨w.heap.size, 6, none⟩ = some (.slice z3a0 z3n0 z3c0) ∧ w'.cell? ⟨w.heap.size, 7, none⟩ = some (.slice z4a0 z4n0 z4c0) ∧ w'.cell? ⟨w.heap.size, 8, none⟩ = some (.slice z5a0 z5n0 z5c0) ∧ w'.cell? ⟨w.heap.size, 9, none⟩ = some (.slice z6a0 z6n0 z6c0) ∧ w'.cell? ⟨w.heap.size, 10, none⟩ = some (.slice (some ad) l.length z7c0) ∧ (∀ j, w'.frozen? ⟨w.heap.size, j, none⟩ = false) := fun w' h => ⟨box_new (by simp) h 0, box_new (by simp) h 1, box_new (by simp) h 2, box_new (by simp) h 3, box_new (by simp) h 4, box_new (by simp) h 5, box_new (by simp) h 6, box_new (by simp) h 7, box_new (by simp) h 8, box_new (by simp) h 9, box_new (by simp) h 10, fun j => box_free (by simp) h j⟩
    go_enter Try.func49, Try.ntmps49
    go_wp2_with (first | (go_at_call 70; refine (clone_own _ l _ (Ty.at_more F7.out mC) hl (by intro n c h; cases h)).mono ?_; rintro e w1 ⟨v1, rfl, hown, hnn, hb1⟩; obtain ⟨g, cap, rfl, hbg, hgl, hncap, hcm, hlen, hH⟩ := Lib.holds_of_ownsRow hown hnn; have X := Lib.hid (And.intro hbg (And.intro hgl (And.intro hncap hH))); have HB1 := Lib.hid hb1; clear hown hnn hH hb1 hbg hgl hncap hcm hlen) | (go_at_call 122; refine (Any.slices_Sort_int laysSort g 0 cap l _ X.out.2.2.2 X.out.2.1 (by omega)).mono ?_; rintro e w2 ⟨rfl, nn, os, rfl⟩; have hcomp := Any.slices_Compact_int laysCompact g 0 cap (srtI l) _ (holds_grow (Value.int .i64) _ os g 0 _ (by simpa [putRow, mapBlock, Sort.ahead] using X.out.2.1) (holds_putRow (Value.int .i64) _ g 0 _ (srtI l).toArray (holds_ahead (Value.int .i64) w1 nn g 0 _ X.out.2.2.2) (by simp [srtI]))) (by rw [srtI_len]; omega) (by rw [srtI_len]; exact X.out.2.2.1); rw [srtI_len] at hcomp) | (go_at_call 123; refine hcomp.mono ?_; rintro e w3 ⟨rfl, q, rfl⟩))
    go_ret
    refine ⟨by rw [cmp_ndc]; rfl, ?_⟩
    exact More.trans (show More w (w.alloc (.cells #[.int .i64 y0, .bool y1, .int .i64 y2, .int .i64 y3, .int .i64 y4, .int .i64 y5, .slice z3a0 z3n0 z3c0, .slice z4a0 z4n0 z4c0, .slice z5a0 z5n0 z5c0, .slice z6a0 z6n0 z6c0, .slice (some ad) l.length z7c0] 74)) from mC) (Lib.below_putRow (HB1.out.grown (grownBy_sortedI _) HB1.out.size (fun j hj => by cases hj; exact X.out.1)) X.out.1)
set_option maxRecDepth 8000 in
set_option maxHeartbeats 6400000 in
theorem spec_CountParts (cs : List Value) (x : QSlice) (w : World) (hv : tSlc.at w cs x) (hw : wSlice x ≤ 1048576) :
    Calls Try.prog 48 #[.agg cs.toArray] w fun e w' => e = .returned (.int .i64 (ndc x.2.2.2.2.2.2.2 : Nat)) ∧ More w w' := by
  obtain ⟨k0, d0, rfl, f0, e0⟩ := at_prod hv
  obtain ⟨k1, d1, rfl, f1, e1⟩ := at_prod e0
  obtain ⟨k2, d2, rfl, f2, e2⟩ := at_prod e1
  obtain ⟨k3, d3, rfl, f3, e3⟩ := at_prod e2
  obtain ⟨k4, d4, rfl, f4, e4⟩ := at_prod e3
  obtain ⟨k5, d5, rfl, f5, e5⟩ := at_prod e4
  obtain ⟨k6, d6, rfl, f6, e6⟩ := at_prod e5
  have f7 := e6; clear e6
  obtain rfl := sh_int f0
  obtain rfl := sh_bool f1
  obtain rfl := sh_Box f2
  obtain ⟨z3a0, z3n0, z3c0, rfl⟩ := sh_slice f3
  obtain ⟨z4a0, z4n0, z4c0, rfl⟩ := sh_slice f4
  obtain ⟨z5a0, z5n0, z5c0, rfl⟩ := sh_slice f5
  obtain ⟨z6a0, z6n0, z6c0, rfl⟩ := sh_slice f6
  obtain ⟨z7a0, z7n0, z7c0, rfl⟩ := sh_slice f7
  obtain ⟨ao7, cap7, e7⟩ := sl_len (show tInts.at w [.slice z7a0 z7n0 z7c0] x.2.2.2.2.2.2.2 from f7)
  cases e7
  obtain ⟨l, el⟩ : ∃ l, l = x.2.2.2.2.2.2.2 := ⟨_, rfl⟩
  have hl : l.length ≤ 1048576 := by rw [el]; have h := hw; unfold wSlice wIntS at h; omega
  have F7 : Hid (tInts.at w [.slice z7a0 l.length z7c0] l) := Lib.hid (by rw [el]; exact f7)
  rw [← el]
  clear f0 f1 f2 f3 f4 f5 f6 f7 e0 e1 e2 e3 e4 e5 hw hv
  generalize x.1 = y0, x.2.1 = y1, x.2.2.1.1.1 = y2, x.2.2.1.1.2 = y3, x.2.2.1.2.1 = y4, x.2.2.1.2.2 = y5
  clear el
  show Calls Try.prog 48 #[.agg #[.int .i64 y0, .bool y1, .int .i64 y2, .int .i64 y3, .int .i64 y4, .int .i64 y5, .slice z3a0 z3n0 z3c0, .slice z4a0 z4n0 z4c0, .slice z5a0 z5n0 z5c0, .slice z6a0 z6n0 z6c0, .slice z7a0 l.length z7c0]] w _
  obtain ⟨n, hn⟩ : ∃ n, n = l.length := ⟨_, rfl⟩
  rw [← hn] at F7 hl ⊢
  have HN := Lib.hid hn; clear hn
  have hcap : n ≤ z7c0 := by
    obtain ⟨ao', cap', h0, q1, q2, q3, _⟩ := slRd_at F7.out
    simp at h0
    obtain ⟨rfl, h1, rfl⟩ := h0
    omega
  have HX : More (w.alloc (.cells #[.int .i64 y0, .bool y1, .int .i64 y2, .int .i64 y3, .int .i64 y4, .int .i64 y5, .slice z3a0 z3n0 z3c0, .slice z4a0 z4n0 z4c0, .slice z5a0 z5n0 z5c0, .slice z6a0 z6n0 z6c0, .slice z7a0 n z7c0] 74)) (w.alloc (.cells #[.int .i64 y0, .bool y1, .int .i64 y2, .int .i64 y3, .int .i64 y4, .int .i64 y5, .slice z3a0 z3n0 z3c0, .slice z4a0 z4n0 z4c0, .slice z5a0 z5n0 z5c0, .slice z6a0 z6n0 z6c0, .slice z7a0 n z7c0] 74)) := More.refl _
  have HB : ∀ w', More (w.alloc (.cells #[.int .i64 y0, .bool y1, .int .i64 y2, .int .i64 y3, .int .i64 y4, .int .i64 y5, .slice z3a0 z3n0 z3c0, .slice z4a0 z4n0 z4c0, .slice z5a0 z5n0 z5c0, .slice z6a0 z6n0 z6c0, .slice z7a0 n z7c0] 74)) w' → w'.cell? ⟨w.heap.size, 0, none⟩ = some (.int .i64 y0) ∧ w'.cell? ⟨w.heap.size, 1, none⟩ = some (.bool y1) ∧ w'.cell? ⟨w.heap.size, 2, none⟩ = some (.int .i64 y2) ∧ w'.cell? ⟨w.heap.size, 3, none⟩ = some (.int .i64 y3) ∧ w'.cell? ⟨w.heap.size, 4, none⟩ = some (.int .i64 y4) ∧ w'.cell? ⟨w.heap.size, 5, none⟩ = some (.int .i64 y5) ∧ w'.cell? ⟨w.heap.size, 6, none⟩ = some (.slice z3a0 z3n0 z3c0) ∧ w'.cell? ⟨w.heap.size, 7, none⟩ = some (.slice z4a0 z4n0 z4c0) ∧ w'.cell? ⟨w.heap.size, 8, none⟩ = some (.slice z5a0 z5n0 z5c0) ∧ w'.cell? ⟨w.heap.size, 9, none⟩ = some (.slice z6a0 z6n0 z6c0) ∧ w'.cell? ⟨w.heap.size, 10, none⟩ = some (.slice z7a0 n z7c0) ∧ (∀ j, w'.frozen? ⟨w.heap.size, j, none⟩ = false) := fun w' h => ⟨box_new (by simp) h 0, box_new (by simp) h 1, box_new (by simp) h 2, box_new (by simp) h 3, box_new (by simp) h 4, box_new (by simp) h 5, box_new (by simp) h 6, box_new (by simp) h 7, box_new (by simp) h 8, box_new (by simp) h 9, box_new (by simp) h 10, fun j => box_free (by simp) h j⟩
  go_enter Try.func48, Try.ntmps48
  go_wp2_with fail
  go_loopw [3, 12] (fun v i wr => ∃ k : Nat, k ≤ n ∧ i = .int .i64 k ∧ v = .int .i64 (ndk l k : Nat) ∧ More (w.alloc (.cells #[.int .i64 y0, .bool y1, .int .i64 y2, .int .i64 y3, .int .i64 y4, .int .i64 y5, .slice z3a0 z3n0 z3c0, .slice z4a0 z4n0 z4c0, .slice z5a0 z5n0 z5c0, .slice z6a0 z6n0 z6c0, .slice z7a0 n z7c0] 74)) wr) (fun _ i _ => n - (intOf i).toNat)
  case atStart => exact ⟨0, Nat.zero_le _, rfl, rfl, mC⟩
  case round =>
    obtain ⟨k, hk, rfl, rfl, hm⟩ := hrel
    obtain ⟨wo, rfl⟩ : ∃ wo : World, wo = wr := ⟨_, rfl⟩
    have HM := Lib.hid hm
    have HW := Lib.hid (More.trans (show More w (w.alloc (.cells #[.int .i64 y0, .bool y1, .int .i64 y2, .int .i64 y3, .int .i64 y4, .int .i64 y5, .slice z3a0 z3n0 z3c0, .slice z4a0 z4n0 z4c0, .slice z5a0 z5n0 z5c0, .slice z6a0 z6n0 z6c0, .slice z7a0 n z7c0] 74)) from mC) hm)
    have HBw := HB _ hm
    have hnd : ndk l k ≤ k := ndk_le l k
    by_cases hlt : k < n
    · obtain ⟨b, off, a, rfl, hblt, hx, ha, c0⟩ := int_el (Ty.at_more F7.out (More.trans (show More w (w.alloc (.cells #[.int .i64 y0, .bool y1, .int .i64 y2, .int .i64 y3, .int .i64 y4, .int .i64 y5, .slice z3a0 z3n0 z3c0, .slice z4a0 z4n0 z4c0, .slice z5a0 z5n0 z5c0, .slice z6a0 z6n0 z6c0, .slice z7a0 n z7c0] 74)) from mC) hm)) (k := k) (by rw [← HN.out]; exact hlt)
      have HX := Lib.hid hx; clear hx
      have HNX : Hid (ndk l (k + 1) = ndk l k + if a ∈ l.take k then 0 else 1) := Lib.hid (by rw [ndk, List.getD_eq_getElem?_getD, HX.out]; rfl)
      obtain ⟨N, hN⟩ : ∃ N, N = ndk l k := ⟨_, rfl⟩
      rw [← hN] at hnd ⊢
      have HNN := Lib.hid hN; clear hN
      have hkc : k ≤ z7c0 := by omega
      have hkc1 : (k : Int) ≤ (z7c0 : Int) := by omega
      have hkc2 : (0 : Int) ≤ (k : Int) := by omega
      go_wp2_with fail
      go_loopw [6, 22] (fun bv i wr => ∃ j : Nat, j ≤ k ∧ i = .int .i64 j ∧ bv = .bool (!decide (a ∈ l.take j)) ∧ More wo wr) (fun _ i _ => k - (intOf i).toNat)
      case atStart => exact ⟨0, Nat.zero_le _, rfl, by simp, mC⟩
      case round =>
        obtain ⟨j, hj, rfl, rfl, hmr⟩ := hrel
        by_cases hjn : j < k
        · obtain ⟨b', off', a', e', hblt', hx', ha', c0'⟩ := int_el (Ty.at_more F7.out (More.trans HW.out hmr)) (k := j) (by rw [← HN.out]; omega)
          cases e'
          have HX' := Lib.hid hx'; clear hx'
          have hmem : decide (a ∈ l.take (j + 1)) = (decide (a ∈ l.take j) || decide (a = a')) := by
            rw [take_next HX'.out]
            by_cases h1 : a ∈ l.take j <;> by_cases h2 : a = a' <;> simp [h1, h2]
          have HME := Lib.hid hmem; clear hmem
          rcases Bool.eq_false_or_eq_true (decide (a ∈ l.take j)) with h1 | h1
          · rw [h1]
            go_wp2_with fail
            go_roundw
            case rel => exact ⟨j + 1, by omega, by go_num, by rw [HME.out, h1]; simp, mC⟩
            case measure => simp [intOf]; omega
          · by_cases h2 : a = a'
            · subst h2
              rw [h1]
              go_wp2_with fail
              go_roundw
              case rel => exact ⟨j + 1, by omega, by go_num, by rw [HME.out, h1]; simp, mC⟩
              case measure => simp [intOf]; omega
            · have h3 : (a' != a) = true := by simp; omega
              rw [h1]
              go_wp2_with fail
              go_roundw
              case rel => exact ⟨j + 1, by omega, by go_num, by rw [HME.out, h1]; simp [h2], mC⟩
              case measure => simp [intOf]; omega
        · obtain rfl : j = k := by omega
          rcases Bool.eq_false_or_eq_true (decide (a ∈ l.take j)) with h1 | h1
          · rw [h1]
            go_wp2_with fail
            go_roundw
            case rel => exact ⟨j + 1, by omega, by go_num, by rw [HNX.out, if_pos (of_decide_eq_true h1), HNN.out]; rfl, More.trans HM.out hmr⟩
            case measure => simp [intOf]; omega
          · rw [h1]
            go_wp2_with fail
            go_roundw
            case rel => exact ⟨j + 1, by omega, by go_num, by rw [HNX.out, if_neg (of_decide_eq_false h1), HNN.out]; go_num, More.trans HM.out hmr⟩
            case measure => simp [intOf]; omega
    · obtain rfl : k = n := by omega
      go_wp2_with fail
      go_ret
      exact ⟨ret_int (by rw [HN.out, ndk_all]), HW.out⟩
end Go.Proofs.Ytlidkddicnfmaaa
