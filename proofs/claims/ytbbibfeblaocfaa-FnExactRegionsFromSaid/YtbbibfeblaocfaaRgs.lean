/- RegionsFrom: the reference's and the program's. -/
import Derived.Test.YtbbibfeblaocfaaPut
import Derived.Test.YtbbibfeblaocfaaSrtI
import Derived.Test.YtbbibfeblaocfaaGVec
import Derived.Test.YtbbibfeblaocfaaGBase
import Derived.Deep.RegionHeld3
import Derived.Deep.QuietTactic
namespace Go.Proofs.Ytbbibfeblaocfaa
open Go.RowKit
theorem bfs_next {L : List (List Int)} {k : Int} {q : Nat} (h : q < (bfs L k q).length) {m : Nat} {row : List Int} (hm : (bfs L k q)[q]? = some (m : Int)) (hr : L[m]? = some row) : bfs L k (q + 1) = bfAdd L.length (bfs L k q) row := by
  have e1 : (bfs L k q).getD q 0 = (m : Int) := by rw [List.getD_eq_getElem?_getD, hm]; rfl
  rw [bfs, if_pos h, bfLinks, e1, List.getD_eq_getElem?_getD]
  simp [hr]
theorem bfAdd_len {n : Nat} {Q l : List Int} : Q.length ≤ (bfAdd n Q l).length := by
  obtain ⟨R, hR⟩ := bfAdd_pre (n := n) (Q := Q) (l := l)
  rw [hR]; simp
theorem bfs_pos (L : List (List Int)) (k : Int) (i : Nat) : 0 < (bfs L k i).length := by
  induction i with
  | zero => simp [bfs]
  | succ i ih =>
    rw [bfs]
    split
    · exact Nat.lt_of_lt_of_le ih bfAdd_len
    · exact ih
theorem bfs_mem {L : List (List Int)} {k : Int} (hk : inR k 0 ((L.length : Int) - 1) = true) {i j : Nat} {y : Int} (h : (bfs L k i)[j]? = some y) : ∃ m : Nat, y = (m : Int) ∧ m < L.length := by
  have := inR_iff.1 ((bfs_ok hk i).2 y (List.mem_of_getElem? h))
  exact ⟨y.toNat, by omega, by omega⟩
theorem regF_len {x : QRoad} (k : Int) (h : wRoad x ≤ 1048576) : (regF x.2.2.2 k).length ≤ 1048576 := by
  have h1 : x.2.2.2.length ≤ 1048576 := by unfold wRoad wIntSS at h; omega
  unfold regF
  split
  · rename_i hk
    rw [List.length_mergeSort]
    exact Nat.le_trans (nodup_len _ _ (bfs_ok hk _)) h1
  · simp
def lenV : Value → Nat
  | .slice _ n _ => n
  | _ => 0
set_option maxRecDepth 8000 in
set_option maxHeartbeats 6400000 in
theorem impl_RegionsFrom (cs : List Value) (x : QRoad) (k : Int) (w : World) (hv : tRoad.at w cs x) (hw : wRoad x ≤ 1048576) (hk64 : In64 k) :
    Calls Try.prog 40 #[.agg cs.toArray, .int .i64 k] w fun e w' => ∃ v', e = .returned v' ∧ More w w' ∧ tInts.fresh w.heap.size w' [v'] (regF x.2.2.2 k) := by
  obtain ⟨i0, hi, hz0, hz1, hz2⟩ := info_parts infoIntP
  obtain ⟨k0, d0, rfl, f0, e0⟩ := at_prod hv
  obtain ⟨k1, d1, rfl, f1, e1⟩ := at_prod e0
  obtain ⟨k2, d2, rfl, f2, e2⟩ := at_prod e1
  have f3 := e2; clear e2
  obtain ⟨a4, n4, c4, a5, n5, c5, a6, n6, c6, rfl⟩ := sh_Scene f0
  obtain ⟨a7, n7, c7, rfl⟩ := sh_slice f1
  obtain ⟨a8, n8, c8, rfl⟩ := sh_slice f2
  obtain ⟨a9, n9, c9, rfl⟩ := sh_slice f3
  obtain ⟨ao7, cap7, e7⟩ := sl_len (show tIntSS.at w [.slice a9 n9 c9] x.2.2.2 from f3)
  cases e7
  obtain ⟨L, eL⟩ : ∃ L, L = x.2.2.2 := ⟨_, rfl⟩
  have hWL : wIntSS L ≤ 1048576 := by rw [eL]; have h := hw; unfold wRoad at h; omega
  rw [← eL] at f3 ⊢
  clear f0 f1 f2 e0 e1 hw hv
  generalize x.1.1.1 = y0, x.1.1.2 = y1, x.1.2.1.1 = y2, x.1.2.1.2 = y3
  clear eL
  obtain ⟨n, hn⟩ : ∃ n, n = L.length := ⟨_, rfl⟩
  have hnl : n ≤ 1048576 := by have h := hWL; unfold wIntSS at h; omega
  have FL : Hid (tIntSS.at w [.slice a9 n c9] L) := Lib.hid (by rw [hn]; exact f3)
  have HWL := Lib.hid hWL
  have e9 : L.length = n := hn.symm
  clear f3 hWL
  show Calls Try.prog 40 #[.agg #[.int .i64 y0, .int .i64 y1, .int .i64 y2, .int .i64 y3, .slice a4 n4 c4, .slice a5 n5 c5, .slice a6 n6 c6, .slice a7 n7 c7, .slice a8 n8 c8, .slice a9 L.length c9], .int .i64 k] w _
  rw [← hn]
  have HN := Lib.hid hn; clear hn
  rcases Bool.eq_false_or_eq_true (inR k 0 ((n : Int) - 1)) with hin | hin
  rotate_left
  · have HIN := Lib.hid hin
    have hreg : regF L k = [] := by unfold regF; rw [← HN.out, if_neg (by rw [HIN.out]; simp)]
    rw [hreg]
    clear hreg e9
    have HX : More (w.alloc (.cells #[.int .i64 y0, .int .i64 y1, .int .i64 y2, .int .i64 y3, .slice a4 n4 c4, .slice a5 n5 c5, .slice a6 n6 c6, .slice a7 n7 c7, .slice a8 n8 c8, .slice a9 n c9] 80)) (w.alloc (.cells #[.int .i64 y0, .int .i64 y1, .int .i64 y2, .int .i64 y3, .slice a4 n4 c4, .slice a5 n5 c5, .slice a6 n6 c6, .slice a7 n7 c7, .slice a8 n8 c8, .slice a9 n c9] 80)) := More.refl _
    have HB : ∀ w', More (w.alloc (.cells #[.int .i64 y0, .int .i64 y1, .int .i64 y2, .int .i64 y3, .slice a4 n4 c4, .slice a5 n5 c5, .slice a6 n6 c6, .slice a7 n7 c7, .slice a8 n8 c8, .slice a9 n c9] 80)) w' → w'.cell? ⟨w.heap.size, 0, none⟩ = some (.int .i64 y0) ∧ w'.cell? ⟨w.heap.size, 1, none⟩ = some (.int .i64 y1) ∧ w'.cell? ⟨w.heap.size, 2, none⟩ = some (.int .i64 y2) ∧ w'.cell? ⟨w.heap.size, 3, none⟩ = some (.int .i64 y3) ∧ w'.cell? ⟨w.heap.size, 4, none⟩ = some (.slice a4 n4 c4) ∧ w'.cell? ⟨w.heap.size, 5, none⟩ = some (.slice a5 n5 c5) ∧ w'.cell? ⟨w.heap.size, 6, none⟩ = some (.slice a6 n6 c6) ∧ w'.cell? ⟨w.heap.size, 7, none⟩ = some (.slice a7 n7 c7) ∧ w'.cell? ⟨w.heap.size, 8, none⟩ = some (.slice a8 n8 c8) ∧ w'.cell? ⟨w.heap.size, 9, none⟩ = some (.slice a9 n c9) ∧ (∀ j, w'.frozen? ⟨w.heap.size, j, none⟩ = false) := fun w' h => ⟨box_new (by simp) h 0, box_new (by simp) h 1, box_new (by simp) h 2, box_new (by simp) h 3, box_new (by simp) h 4, box_new (by simp) h 5, box_new (by simp) h 6, box_new (by simp) h 7, box_new (by simp) h 8, box_new (by simp) h 9, fun j => box_free (by simp) h j⟩
    go_enter Try.func40, Try.ntmps40
    go_wp2_with (first | (go_at_call 63; refine (impl_within _ _ _ _).mono ?_; rintro e w1 ⟨rfl, hb1⟩; rw [HIN.out]))
    go_ret
    exact ⟨_, rfl, mC, (FlatOwn.none (F := fInt) (e := 3)).fresh⟩
  have HIN := Lib.hid hin
  obtain ⟨kk, rfl⟩ : ∃ kk : Nat, k = (kk : Int) := ⟨k.toNat, by have := inR_iff.1 hin; omega⟩
  have hkn : kk < n := by have := inR_iff.1 hin; omega
  have HIL : Hid (inR (kk : Int) 0 ((L.length : Int) - 1) = true) := Lib.hid (by rw [← HN.out]; exact hin)
  clear hin e9
  have HK64 := Lib.hid hk64; clear hk64
  obtain ⟨b2, off2, -, -, -, -, hadr, -⟩ := el_IntS FL.out (k := kk) (by rw [← HN.out]; exact hkn)
  subst hadr
  have HX : More (w.alloc (.cells #[.int .i64 y0, .int .i64 y1, .int .i64 y2, .int .i64 y3, .slice a4 n4 c4, .slice a5 n5 c5, .slice a6 n6 c6, .slice a7 n7 c7, .slice a8 n8 c8, .slice (some ⟨b2, off2, none⟩) n c9] 80)) (w.alloc (.cells #[.int .i64 y0, .int .i64 y1, .int .i64 y2, .int .i64 y3, .slice a4 n4 c4, .slice a5 n5 c5, .slice a6 n6 c6, .slice a7 n7 c7, .slice a8 n8 c8, .slice (some ⟨b2, off2, none⟩) n c9] 80)) := More.refl _
  have HB : ∀ w', More (w.alloc (.cells #[.int .i64 y0, .int .i64 y1, .int .i64 y2, .int .i64 y3, .slice a4 n4 c4, .slice a5 n5 c5, .slice a6 n6 c6, .slice a7 n7 c7, .slice a8 n8 c8, .slice (some ⟨b2, off2, none⟩) n c9] 80)) w' → w'.cell? ⟨w.heap.size, 0, none⟩ = some (.int .i64 y0) ∧ w'.cell? ⟨w.heap.size, 1, none⟩ = some (.int .i64 y1) ∧ w'.cell? ⟨w.heap.size, 2, none⟩ = some (.int .i64 y2) ∧ w'.cell? ⟨w.heap.size, 3, none⟩ = some (.int .i64 y3) ∧ w'.cell? ⟨w.heap.size, 4, none⟩ = some (.slice a4 n4 c4) ∧ w'.cell? ⟨w.heap.size, 5, none⟩ = some (.slice a5 n5 c5) ∧ w'.cell? ⟨w.heap.size, 6, none⟩ = some (.slice a6 n6 c6) ∧ w'.cell? ⟨w.heap.size, 7, none⟩ = some (.slice a7 n7 c7) ∧ w'.cell? ⟨w.heap.size, 8, none⟩ = some (.slice a8 n8 c8) ∧ w'.cell? ⟨w.heap.size, 9, none⟩ = some (.slice (some ⟨b2, off2, none⟩) n c9) ∧ (∀ j, w'.frozen? ⟨w.heap.size, j, none⟩ = false) := fun w' h => ⟨box_new (by simp) h 0, box_new (by simp) h 1, box_new (by simp) h 2, box_new (by simp) h 3, box_new (by simp) h 4, box_new (by simp) h 5, box_new (by simp) h 6, box_new (by simp) h 7, box_new (by simp) h 8, box_new (by simp) h 9, fun j => box_free (by simp) h j⟩
  go_enter Try.func40, Try.ntmps40
  go_wp2_with (first | (go_at_call 63; refine (impl_within _ _ _ _).mono ?_; rintro e w1 ⟨rfl, hb1⟩; rw [HIN.out]))
  go_loopw [5, 6] (fun v i wr => ∃ q : Nat, i = .int .i64 q ∧ More (w.alloc (.cells #[.int .i64 y0, .int .i64 y1, .int .i64 y2, .int .i64 y3, .slice a4 n4 c4, .slice a5 n5 c5, .slice a6 n6 c6, .slice a7 n7 c7, .slice a8 n8 c8, .slice (some ⟨b2, off2, none⟩) n c9] 80)) wr ∧ q ≤ (bfs L kk q).length ∧ Hid (FlatOwn fInt (w.heap.size + 1) 3 wr v (bfs L kk q))) (fun _ i _ => n - (intOf i).toNat)
  case atStart => exact ⟨0, rfl, mC, Nat.zero_le _, Lib.hid (FlatOwn.lit1 (by have := hb1.size; simp at this; omega) rfl HK64.out)⟩
  case round =>
    obtain ⟨q, rfl, hm, hq, HL⟩ := hrel
    have HMW := Lib.hid (More.trans (show More w (w.alloc (.cells #[.int .i64 y0, .int .i64 y1, .int .i64 y2, .int .i64 y3, .slice a4 n4 c4, .slice a5 n5 c5, .slice a6 n6 c6, .slice a7 n7 c7, .slice a8 n8 c8, .slice (some ⟨b2, off2, none⟩) n c9] 80)) from mC) hm)
    have HMB := Lib.hid hm
    have HBw := HB _ hm
    have hql : (bfs L kk q).length ≤ n := by rw [HN.out]; exact nodup_len _ _ (bfs_ok HIL.out q)
    obtain ⟨ao, cap, rfl⟩ := HL.out.len
    have HPos := Lib.hid (bfs_pos L kk q)
    obtain ⟨len, hlen⟩ : ∃ len, len = (bfs L kk q).length := ⟨_, rfl⟩
    rw [← hlen] at hq hql HL ⊢
    have HLen := Lib.hid hlen; clear hlen
    by_cases hlt : q < len
    · obtain ⟨b, off, y, hadr, hblt, hx, -, cy⟩ := int_el HL.out.at (k := q) (by rw [← HLen.out]; exact hlt)
      subst hadr
      obtain ⟨m, rfl, hmL⟩ := bfs_mem HIL.out hx
      have hmn : m < n := by rw [HN.out]; exact hmL
      obtain ⟨b2', off2', row, ra, rn, rc, hadr, hb2, hrow, hrat, hc⟩ := el_IntS FL.out (k := m) hmL
      cases hadr
      obtain ⟨ra', rc', e9⟩ := sl_len hrat
      cases e9
      have hrl : row.length ≤ 1048576 := by have h1 : row.length ≤ wsum wIntS L := wsum_el (f := wIntS) hrow; have h2 := HWL.out; unfold wIntSS at h2; omega
      obtain ⟨r, hr⟩ : ∃ r, r = row.length := ⟨_, rfl⟩
      rw [← hr] at hrat hc
      have HR := Lib.hid hr
      have HRow := Lib.hid hrow
      have HRat := Lib.hid hrat
      rw [← hr] at hrl
      clear hr hrow hrat
      have hm0 : (0 : Int) ≤ (m : Int) := by omega
      have hm1 : (m : Int) < (n : Int) := by omega
      have hc2 : wr.cell? ⟨b2, off2 + m, none⟩ = some (.slice ra r rc) := ((bcell HMW.out).1 _ _ hb2).trans hc
      have HX := Lib.hid hx
      clear hx hc
      have hqi0 : (0 : Int) ≤ (q : Int) := by omega
      have hq1 : (q : Int) < (len : Int) := by omega
      go_wp2_with fail
      go_quiet (fail)
      go_wp2_with fail
      go_loopw [5, 33] (fun v j wr2 => ∃ p : Nat, p ≤ r ∧ j = .int .i64 p ∧ More (w.alloc (.cells #[.int .i64 y0, .int .i64 y1, .int .i64 y2, .int .i64 y3, .slice a4 n4 c4, .slice a5 n5 c5, .slice a6 n6 c6, .slice a7 n7 c7, .slice a8 n8 c8, .slice (some ⟨b2, off2, none⟩) n c9] 80)) wr2 ∧ Hid (FlatOwn fInt (w.heap.size + 1) 3 wr2 v (bfAdd n (bfs L kk q) (row.take p)))) (fun _ j _ => r - (intOf j).toNat)
      case atStart => exact ⟨0, Nat.zero_le _, rfl, More.trans HMB.out mC, Lib.hid (HL.out.more mC)⟩
      case round =>
        clear cy hc2 HBw
        try clear HMW HMB
        obtain ⟨p, hp, rfl, hm2, HL2⟩ := hrel
        have HMW := Lib.hid (More.trans (show More w (w.alloc (.cells #[.int .i64 y0, .int .i64 y1, .int .i64 y2, .int .i64 y3, .slice a4 n4 c4, .slice a5 n5 c5, .slice a6 n6 c6, .slice a7 n7 c7, .slice a8 n8 c8, .slice (some ⟨b2, off2, none⟩) n c9] 80)) from mC) hm2)
        have HMB := Lib.hid hm2
        have HBw := HB _ hm2
        by_cases hlt2 : p < r
        · obtain ⟨b3, off3, z, hadr, hb3, hz, oz, cz0⟩ := int_el HRat.out (k := p) (by rw [← HR.out]; exact hlt2)
          subst hadr
          have hp0 : (0 : Int) ≤ (p : Int) := by omega
          have hp1 : (p : Int) < (r : Int) := by omega
          have cz : wr.cell? ⟨b3, off3 + p, none⟩ = some (.int .i64 z) := ((bcell HMW.out).1 _ _ hb3).trans cz0
          have hnx := bfAdd_next (n := n) (Q := bfs L kk q) hz
          have HOk : RegOk n (bfAdd n (bfs L kk q) (row.take p)) := by have h := bfs_ok HIL.out q; rw [← HN.out] at h; exact bfAdd_ok h
          have hl2 := nodup_len _ _ HOk
          have HOZ := Lib.hid oz
          clear hz cz0 oz HOk
          have HNX := Lib.hid hnx; clear hnx
          obtain ⟨Q2, hQ2⟩ : ∃ Q2, Q2 = bfAdd n (bfs L kk q) (row.take p) := ⟨_, rfl⟩
          rw [← hQ2] at HL2 HNX hl2
          clear hQ2
          obtain ⟨ao2, cap2, rfl⟩ := HL2.out.len
          rcases Bool.eq_false_or_eq_true (inR z 0 ((n : Int) - 1)) with h1 | h1
          · have H1 := Lib.hid h1; clear h1
            rcases Bool.eq_false_or_eq_true (Q2.contains z) with h2 | h2
            · have H2 := Lib.hid h2; clear h2
              go_wp2_with (first | (go_at_call 63; refine (impl_within _ _ _ _).mono ?_; rintro e w1 ⟨rfl, hb1⟩; rw [H1.out]) | (go_at_call 119; refine (slicesContains_int _ Q2 z _ (Ty.at_more HL2.out.at mC) (by omega)).mono ?_; rintro e w2 ⟨rfl, hb2⟩; rw [H2.out]))
              go_roundw
              case rel => exact ⟨p + 1, by omega, by go_num, More.trans HMB.out mC, Lib.hid (by rw [HNX.out, H1.out, H2.out]; exact HL2.out.more mC)⟩
              case measure => simp [intOf]; omega
            · have H2 := Lib.hid h2; clear h2
              go_wp2_with (first | (go_at_call 63; refine (impl_within _ _ _ _).mono ?_; rintro e w1 ⟨rfl, hb1⟩; rw [H1.out]) | (go_at_call 119; refine (slicesContains_int _ Q2 z _ (Ty.at_more HL2.out.at mC) (by omega)).mono ?_; rintro e w2 ⟨rfl, hb2⟩; rw [H2.out]) | (at_builtin; refine wpList_pushFlat fInt wr rfl _ _ 26 rfl (w.heap.size + 1) 3 i0 (.int .i64 0) 8 Try.underlying26 hi hz0 hz1 hz2 rfl (by decide) rfl HL2.out mC rfl (by simp) (y := z) rfl HOZ.out (Lib.hid (by omega)) (by decide) (Lib.hid (by have := HMB.out.size; simp at this; omega)) ?_))
              intro v4 w4 hl4 hm4
              have hmw4 : More (w.alloc (.cells #[.int .i64 y0, .int .i64 y1, .int .i64 y2, .int .i64 y3, .slice a4 n4 c4, .slice a5 n5 c5, .slice a6 n6 c6, .slice a7 n7 c7, .slice a8 n8 c8, .slice (some ⟨b2, off2, none⟩) n c9] 80)) w4 := hm4 (w.alloc (.cells #[.int .i64 y0, .int .i64 y1, .int .i64 y2, .int .i64 y3, .slice a4 n4 c4, .slice a5 n5 c5, .slice a6 n6 c6, .slice a7 n7 c7, .slice a8 n8 c8, .slice (some ⟨b2, off2, none⟩) n c9] 80)) (by simp) (More.trans HMB.out mC)
              go_wp2_with fail
              go_roundw
              case rel => exact ⟨p + 1, by omega, by go_num, hmw4, Lib.hid (by rw [HNX.out, H1.out, H2.out]; exact hl4)⟩
              case measure => simp [intOf]; omega
          · have H1 := Lib.hid h1; clear h1
            go_wp2_with (first | (go_at_call 63; refine (impl_within _ _ _ _).mono ?_; rintro e w1 ⟨rfl, hb1⟩; rw [H1.out]) | (go_at_call 119; refine (slicesContains_int _ Q2 z _ (Ty.at_more HL2.out.at mC) (by omega)).mono ?_; rintro e w2 ⟨rfl, hb2⟩; rw [H2.out]))
            go_roundw
            case rel => exact ⟨p + 1, by omega, by go_num, More.trans HMB.out mC, Lib.hid (by rw [HNX.out, H1.out]; exact HL2.out.more mC)⟩
            case measure => simp [intOf]; omega
        · obtain rfl : p = r := by omega
          have hnx : bfs L kk (q + 1) = bfAdd n (bfs L kk q) (row.take p) := by
            rw [HR.out, List.take_length, HN.out]
            exact bfs_next (by rw [← HLen.out]; exact hlt) HX.out HRow.out
          have hge := bfAdd_len (n := n) (Q := bfs L kk q) (l := row.take p)
          rw [← HLen.out, ← hnx] at hge
          rw [← hnx] at HL2
          clear hnx
          go_wp2_with fail
          go_roundw
          case rel => exact ⟨q + 1, by go_num, HMB.out, by omega, HL2⟩
          case measure => simp [intOf]; omega
    · obtain rfl : q = len := by omega
      have hend := bfs_end HIL.out (i := q) (by rw [← HLen.out]; exact Nat.le_refl _)
      have HL3 : Hid (FlatOwn fInt (w.heap.size + 1) 3 wr (.slice ao q cap) (bfs L kk q)) := HL
      go_wp2_with (first | (go_at_call 120; refine (sort_own _ (bfs L kk q) (w.heap.size + 1) _ HL3.out HPos.out (by have := HLen.out; omega) (by have := HMB.out.size; simp at this; omega)).mono ?_; rintro e w5 ⟨rfl, hf, hb5⟩))
      have hm5 : More w w5 := by have h := HMB.out; exact More.trans (show More w (w.alloc (.cells #[.int .i64 y0, .int .i64 y1, .int .i64 y2, .int .i64 y3, .slice a4 n4 c4, .slice a5 n5 c5, .slice a6 n6 c6, .slice a7 n7 c7, .slice a8 n8 c8, .slice (some ⟨b2, off2, none⟩) n c9] 80)) from mC) (Below.trans h (by simpa using hb5))
      go_ret
      refine ⟨_, rfl, hm5, Ty.fresh_mono ?_ (Nat.le_succ _)⟩
      have hreg : regF L kk = (bfs L kk q).mergeSort fun x y => decide (x ≤ y) := by
        unfold regF
        rw [if_pos HIL.out, hend]
        rfl
      rw [hreg]
      exact hf.fresh
set_option maxRecDepth 8000 in
set_option maxHeartbeats 6400000 in
theorem spec_RegionsFrom (cs : List Value) (x : QRoad) (k : Int) (w : World) (hv : tRoad.at w cs x) (hw : wRoad x ≤ 1048576) (hk64 : In64 k) :
    Calls Try.prog 39 #[.agg cs.toArray, .int .i64 k] w fun e w' => ∃ v', e = .returned v' ∧ More w w' ∧ tInts.fresh w.heap.size w' [v'] (regF x.2.2.2 k) := by
  obtain ⟨i0, hi, hz0, hz1, hz2⟩ := info_parts infoIntP
  obtain ⟨k0, d0, rfl, f0, e0⟩ := at_prod hv
  obtain ⟨k1, d1, rfl, f1, e1⟩ := at_prod e0
  obtain ⟨k2, d2, rfl, f2, e2⟩ := at_prod e1
  have f3 := e2; clear e2
  obtain ⟨a4, n4, c4, a5, n5, c5, a6, n6, c6, rfl⟩ := sh_Scene f0
  obtain ⟨a7, n7, c7, rfl⟩ := sh_slice f1
  obtain ⟨a8, n8, c8, rfl⟩ := sh_slice f2
  obtain ⟨a9, n9, c9, rfl⟩ := sh_slice f3
  obtain ⟨ao7, cap7, e7⟩ := sl_len (show tIntSS.at w [.slice a9 n9 c9] x.2.2.2 from f3)
  cases e7
  obtain ⟨L, eL⟩ : ∃ L, L = x.2.2.2 := ⟨_, rfl⟩
  have hWL : wIntSS L ≤ 1048576 := by rw [eL]; have h := hw; unfold wRoad at h; omega
  rw [← eL] at f3 ⊢
  clear f0 f1 f2 e0 e1 hw hv
  generalize x.1.1.1 = y0, x.1.1.2 = y1, x.1.2.1.1 = y2, x.1.2.1.2 = y3
  clear eL
  obtain ⟨n, hn⟩ : ∃ n, n = L.length := ⟨_, rfl⟩
  have hnl : n ≤ 1048576 := by have h := hWL; unfold wIntSS at h; omega
  have FL : Hid (tIntSS.at w [.slice a9 n c9] L) := Lib.hid (by rw [hn]; exact f3)
  have HWL := Lib.hid hWL
  have e9 : L.length = n := hn.symm
  clear f3 hWL
  show Calls Try.prog 39 #[.agg #[.int .i64 y0, .int .i64 y1, .int .i64 y2, .int .i64 y3, .slice a4 n4 c4, .slice a5 n5 c5, .slice a6 n6 c6, .slice a7 n7 c7, .slice a8 n8 c8, .slice a9 L.length c9], .int .i64 k] w _
  rw [← hn]
  have HN := Lib.hid hn; clear hn
  rcases Bool.eq_false_or_eq_true (inR k 0 ((n : Int) - 1)) with hin | hin
  rotate_left
  · have HIN := Lib.hid hin
    have hreg : regF L k = [] := by unfold regF; rw [← HN.out, if_neg (by rw [HIN.out]; simp)]
    rw [hreg]
    clear hreg e9
    have HX : More (w.alloc (.cells #[.int .i64 y0, .int .i64 y1, .int .i64 y2, .int .i64 y3, .slice a4 n4 c4, .slice a5 n5 c5, .slice a6 n6 c6, .slice a7 n7 c7, .slice a8 n8 c8, .slice a9 n c9] 80)) (w.alloc (.cells #[.int .i64 y0, .int .i64 y1, .int .i64 y2, .int .i64 y3, .slice a4 n4 c4, .slice a5 n5 c5, .slice a6 n6 c6, .slice a7 n7 c7, .slice a8 n8 c8, .slice a9 n c9] 80)) := More.refl _
    have HB : ∀ w', More (w.alloc (.cells #[.int .i64 y0, .int .i64 y1, .int .i64 y2, .int .i64 y3, .slice a4 n4 c4, .slice a5 n5 c5, .slice a6 n6 c6, .slice a7 n7 c7, .slice a8 n8 c8, .slice a9 n c9] 80)) w' → w'.cell? ⟨w.heap.size, 0, none⟩ = some (.int .i64 y0) ∧ w'.cell? ⟨w.heap.size, 1, none⟩ = some (.int .i64 y1) ∧ w'.cell? ⟨w.heap.size, 2, none⟩ = some (.int .i64 y2) ∧ w'.cell? ⟨w.heap.size, 3, none⟩ = some (.int .i64 y3) ∧ w'.cell? ⟨w.heap.size, 4, none⟩ = some (.slice a4 n4 c4) ∧ w'.cell? ⟨w.heap.size, 5, none⟩ = some (.slice a5 n5 c5) ∧ w'.cell? ⟨w.heap.size, 6, none⟩ = some (.slice a6 n6 c6) ∧ w'.cell? ⟨w.heap.size, 7, none⟩ = some (.slice a7 n7 c7) ∧ w'.cell? ⟨w.heap.size, 8, none⟩ = some (.slice a8 n8 c8) ∧ w'.cell? ⟨w.heap.size, 9, none⟩ = some (.slice a9 n c9) ∧ (∀ j, w'.frozen? ⟨w.heap.size, j, none⟩ = false) := fun w' h => ⟨box_new (by simp) h 0, box_new (by simp) h 1, box_new (by simp) h 2, box_new (by simp) h 3, box_new (by simp) h 4, box_new (by simp) h 5, box_new (by simp) h 6, box_new (by simp) h 7, box_new (by simp) h 8, box_new (by simp) h 9, fun j => box_free (by simp) h j⟩
    go_enter Try.func39, Try.ntmps39
    go_wp2_with (first | (go_at_call 116; refine (spec_l01In _ _ _ _).mono ?_; rintro e w1 ⟨rfl, hb1⟩; rw [HIN.out]))
    go_ret
    exact ⟨_, rfl, mC, (FlatOwn.none (F := fInt) (e := 3)).fresh⟩
  have HIN := Lib.hid hin
  obtain ⟨kk, rfl⟩ : ∃ kk : Nat, k = (kk : Int) := ⟨k.toNat, by have := inR_iff.1 hin; omega⟩
  have hkn : kk < n := by have := inR_iff.1 hin; omega
  have HIL : Hid (inR (kk : Int) 0 ((L.length : Int) - 1) = true) := Lib.hid (by rw [← HN.out]; exact hin)
  clear hin e9
  have HK64 := Lib.hid hk64; clear hk64
  obtain ⟨b2, off2, -, -, -, -, hadr, -⟩ := el_IntS FL.out (k := kk) (by rw [← HN.out]; exact hkn)
  subst hadr
  have HX : More (w.alloc (.cells #[.int .i64 y0, .int .i64 y1, .int .i64 y2, .int .i64 y3, .slice a4 n4 c4, .slice a5 n5 c5, .slice a6 n6 c6, .slice a7 n7 c7, .slice a8 n8 c8, .slice (some ⟨b2, off2, none⟩) n c9] 80)) (w.alloc (.cells #[.int .i64 y0, .int .i64 y1, .int .i64 y2, .int .i64 y3, .slice a4 n4 c4, .slice a5 n5 c5, .slice a6 n6 c6, .slice a7 n7 c7, .slice a8 n8 c8, .slice (some ⟨b2, off2, none⟩) n c9] 80)) := More.refl _
  have HB : ∀ w', More (w.alloc (.cells #[.int .i64 y0, .int .i64 y1, .int .i64 y2, .int .i64 y3, .slice a4 n4 c4, .slice a5 n5 c5, .slice a6 n6 c6, .slice a7 n7 c7, .slice a8 n8 c8, .slice (some ⟨b2, off2, none⟩) n c9] 80)) w' → w'.cell? ⟨w.heap.size, 0, none⟩ = some (.int .i64 y0) ∧ w'.cell? ⟨w.heap.size, 1, none⟩ = some (.int .i64 y1) ∧ w'.cell? ⟨w.heap.size, 2, none⟩ = some (.int .i64 y2) ∧ w'.cell? ⟨w.heap.size, 3, none⟩ = some (.int .i64 y3) ∧ w'.cell? ⟨w.heap.size, 4, none⟩ = some (.slice a4 n4 c4) ∧ w'.cell? ⟨w.heap.size, 5, none⟩ = some (.slice a5 n5 c5) ∧ w'.cell? ⟨w.heap.size, 6, none⟩ = some (.slice a6 n6 c6) ∧ w'.cell? ⟨w.heap.size, 7, none⟩ = some (.slice a7 n7 c7) ∧ w'.cell? ⟨w.heap.size, 8, none⟩ = some (.slice a8 n8 c8) ∧ w'.cell? ⟨w.heap.size, 9, none⟩ = some (.slice (some ⟨b2, off2, none⟩) n c9) ∧ (∀ j, w'.frozen? ⟨w.heap.size, j, none⟩ = false) := fun w' h => ⟨box_new (by simp) h 0, box_new (by simp) h 1, box_new (by simp) h 2, box_new (by simp) h 3, box_new (by simp) h 4, box_new (by simp) h 5, box_new (by simp) h 6, box_new (by simp) h 7, box_new (by simp) h 8, box_new (by simp) h 9, fun j => box_free (by simp) h j⟩
  go_enter Try.func39, Try.ntmps39
  go_wp2_with (first | (go_at_call 116; refine (spec_l01In _ _ _ _).mono ?_; rintro e w1 ⟨rfl, hb1⟩; rw [HIN.out]))
  go_loopw [5, 6] (fun vo vl wr => ∃ (q g : Nat) (P : List Int), More (w.alloc (.cells #[.int .i64 y0, .int .i64 y1, .int .i64 y2, .int .i64 y3, .slice a4 n4 c4, .slice a5 n5 c5, .slice a6 n6 c6, .slice a7 n7 c7, .slice a8 n8 c8, .slice (some ⟨b2, off2, none⟩) n c9] 80)) wr ∧ q ≤ (bfs L kk q).length ∧ Hid (QueI (w.heap.size + 1) g wr vl ((bfs L kk q).drop q)) ∧ Hid (FlatOwn fInt (w.heap.size + 1) 3 wr vo P) ∧ Hid (P.Perm (bfs L kk q)) ∧ Hid (P.Pairwise (fun a b => a ≤ b)) ∧ Hid (vo.ownBlock ≠ some g)) (fun vo vl _ => n - (lenV vo - lenV vl))
  case atStart => exact ⟨0, w1.heap.size + 1, [(kk : Int)], mC, Nat.zero_le _, Lib.hid (QueI.lit1 (by simp) (by have := hb1.size; simp at this; omega) HK64.out), Lib.hid (FlatOwn.more (FlatOwn.lit1 (by have := hb1.size; simp at this; omega) rfl HK64.out) (Turns.more ((Turns.refl [] _).alloc _))), Lib.hid (List.Perm.refl _), Lib.hid (by simp), Lib.hid (by simp [Value.ownBlock])⟩
  case round =>
    obtain ⟨q, g, P, hm, hq, HQ, HL, HPm, HPs, HDj⟩ := hrel
    have HMW := Lib.hid (More.trans (show More w (w.alloc (.cells #[.int .i64 y0, .int .i64 y1, .int .i64 y2, .int .i64 y3, .slice a4 n4 c4, .slice a5 n5 c5, .slice a6 n6 c6, .slice a7 n7 c7, .slice a8 n8 c8, .slice (some ⟨b2, off2, none⟩) n c9] 80)) from mC) hm)
    have HMB := Lib.hid hm
    have HBw := HB _ hm
    have hql : (bfs L kk q).length ≤ n := by rw [HN.out]; exact nodup_len _ _ (bfs_ok HIL.out q)
    have hPl : P.length = (bfs L kk q).length := HPm.out.length_eq
    have HPos := Lib.hid (bfs_pos L kk q)
    obtain ⟨len, hlen⟩ : ∃ len, len = (bfs L kk q).length := ⟨_, rfl⟩
    rw [← hlen] at hq hql hPl
    have HLen := Lib.hid hlen; clear hlen
    obtain ⟨ao, cap, rfl⟩ := HL.out.len
    obtain ⟨D, hD⟩ : ∃ D, D = (bfs L kk q).drop q := ⟨_, rfl⟩
    have hDl : D.length = len - q := by rw [hD, List.length_drop, HLen.out]
    rw [← hD] at HQ
    have HD := Lib.hid hD; clear hD
    obtain ⟨off, cq, rfl, -, hgw, hcq1, hcq2, hsp, hel⟩ := HQ.out
    rw [hPl, hDl]
    rw [hPl] at HL HDj
    rw [hDl] at HQ hcq1
    have HDL := Lib.hid hDl; have HPL := Lib.hid hPl; clear hDl hPl
    by_cases hlt : q < len
    · obtain ⟨y, rest, hyr⟩ : ∃ y rest, D = y :: rest := by
        cases D with
        | nil => have hDl := HDL.out; simp at hDl; omega
        | cons y rest => exact ⟨y, rest, rfl⟩
      have hx : (bfs L kk q)[q]? = some y := by
        have h1 := HD.out
        rw [hyr] at h1
        have h2 := congrArg List.head? h1
        rw [List.head?_drop] at h2
        exact h2.symm
      have hrest : rest = (bfs L kk q).drop (q + 1) := by
        have h1 := HD.out
        rw [hyr] at h1
        have h2 := congrArg List.tail h1
        rw [List.tail_drop] at h2
        exact h2
      have cy : wr.cell? ⟨g, off, none⟩ = some (.int .i64 y) := by
        have h1 := (hel 0 y (by rw [hyr]; rfl)).1
        exact h1
      rw [hyr] at HQ
      clear hel hsp hyr HD
      obtain ⟨dl, hdl⟩ : ∃ dl, dl = len - q := ⟨_, rfl⟩
      rw [← hdl] at HQ hcq1 ⊢
      have hdl0 : 0 < dl := by omega
      have hdi : (0 : Int) < (dl : Int) := by omega
      have hdi1 : (1 : Int) ≤ (dl : Int) := by omega
      have hci : (dl : Int) ≤ (cq : Int) := by omega
      have HDl := Lib.hid hdl; clear hdl
      obtain ⟨m, rfl, hmL⟩ := bfs_mem HIL.out hx
      have hmn : m < n := by rw [HN.out]; exact hmL
      obtain ⟨b2', off2', row, ra, rn, rc, hadr, hb2, hrow, hrat, hc⟩ := el_IntS FL.out (k := m) hmL
      cases hadr
      obtain ⟨ra', rc', e9⟩ := sl_len hrat
      cases e9
      have hrl : row.length ≤ 1048576 := by have h1 : row.length ≤ wsum wIntS L := wsum_el (f := wIntS) hrow; have h2 := HWL.out; unfold wIntSS at h2; omega
      obtain ⟨r, hr⟩ : ∃ r, r = row.length := ⟨_, rfl⟩
      rw [← hr] at hrat hc
      have HR := Lib.hid hr
      have HRow := Lib.hid hrow
      have HRat := Lib.hid hrat
      rw [← hr] at hrl
      clear hr hrow hrat
      have hm0 : (0 : Int) ≤ (m : Int) := by omega
      have hm1 : (m : Int) < (n : Int) := by omega
      have hc2 : wr.cell? ⟨b2, off2 + m, none⟩ = some (.slice ra r rc) := ((bcell HMW.out).1 _ _ hb2).trans hc
      have HX := Lib.hid hx
      clear hx hc
      by_cases hc1 : cq = 1
      · have hd1 : dl = 1 := by omega
        subst hc1
        have HQT : Hid (QueI (w.heap.size + 1) g wr (.slice (some ⟨g, off, none⟩) 0 0) ((bfs L kk q).drop (q + 1))) := Lib.hid (by have h := QueI.tail HQ.out (off' := off) (.inr rfl); rw [hrest, hd1] at h; exact h)
        rw [hd1]
        rw [hd1] at HQ
        go_wp2_with fail
        go_loopw [5, 6, 35] (fun vo vl j wr => ∃ (p g : Nat) (P : List Int), p ≤ r ∧ j = .int .i64 p ∧ More (w.alloc (.cells #[.int .i64 y0, .int .i64 y1, .int .i64 y2, .int .i64 y3, .slice a4 n4 c4, .slice a5 n5 c5, .slice a6 n6 c6, .slice a7 n7 c7, .slice a8 n8 c8, .slice (some ⟨b2, off2, none⟩) n c9] 80)) wr ∧ Hid (QueI (w.heap.size + 1) g wr vl ((bfAdd n (bfs L kk q) (row.take p)).drop (q + 1))) ∧ Hid (FlatOwn fInt (w.heap.size + 1) 3 wr vo P) ∧ Hid (P.Perm (bfAdd n (bfs L kk q) (row.take p))) ∧ Hid (P.Pairwise (fun a b => a ≤ b)) ∧ Hid (vo.ownBlock ≠ some g)) (fun _ _ j _ => r - (intOf j).toNat)
        case atStart => exact ⟨0, g, P, Nat.zero_le _, rfl, More.trans HMB.out mC, Lib.hid (QueI.more HQT.out mC), Lib.hid (HL.out.more mC), HPm, HPs, HDj⟩
        case round =>
          clear cy hc2 HBw
          try clear HMW HMB
          obtain ⟨p, g2, P2, hp, rfl, hm2, HQ2, HL2, HPm2, HPs2, HDj2⟩ := hrel
          have HMW := Lib.hid (More.trans (show More w (w.alloc (.cells #[.int .i64 y0, .int .i64 y1, .int .i64 y2, .int .i64 y3, .slice a4 n4 c4, .slice a5 n5 c5, .slice a6 n6 c6, .slice a7 n7 c7, .slice a8 n8 c8, .slice (some ⟨b2, off2, none⟩) n c9] 80)) from mC) hm2)
          have HMB := Lib.hid hm2
          have HBw := HB _ hm2
          have HOk : RegOk n (bfAdd n (bfs L kk q) (row.take p)) := by have h := bfs_ok HIL.out q; rw [← HN.out] at h; exact bfAdd_ok h
          have hge := bfAdd_len (n := n) (Q := bfs L kk q) (l := row.take p)
          rw [← HLen.out] at hge
          have hl2 := nodup_len _ _ HOk
          have hlp : P2.length ≤ (bfAdd n (bfs L kk q) (row.take p)).length := Nat.le_of_eq HPm2.out.length_eq
          have hlq : (bfAdd n (bfs L kk q) (row.take p)).length ≤ P2.length := Nat.le_of_eq HPm2.out.length_eq.symm
          clear HOk
          by_cases hlt2 : p < r
          · obtain ⟨b3, off3, z, hadr, hb3, hz, oz, cz0⟩ := int_el HRat.out (k := p) (by rw [← HR.out]; exact hlt2)
            subst hadr
            have hp0 : (0 : Int) ≤ (p : Int) := by omega
            have hp1 : (p : Int) < (r : Int) := by omega
            have cz : wr.cell? ⟨b3, off3 + p, none⟩ = some (.int .i64 z) := ((bcell HMW.out).1 _ _ hb3).trans cz0
            have HNX := Lib.hid (bfAdd_next (n := n) (Q := bfs L kk q) hz)
            have HOZ := Lib.hid oz
            clear hz cz0 oz
            obtain ⟨Q2, hQ2⟩ : ∃ Q2, Q2 = bfAdd n (bfs L kk q) (row.take p) := ⟨_, rfl⟩
            rw [← hQ2] at HNX hl2 hlp hlq hge HQ2 HPm2
            clear hQ2
            obtain ⟨go2, co2, rfl, hg2a, hg2b⟩ := own_form (n := P2.length) HL2.out.1 (by omega)
            obtain ⟨of2, cq2, rfl, -⟩ := HQ2.out
            obtain ⟨d2, hd2⟩ : ∃ d2, d2 = (Q2.drop (q + 1)).length := ⟨_, rfl⟩
            rw [← hd2] at HQ2 ⊢
            clear hd2
            have hC : Hid (P2.contains z = Q2.contains z) := Lib.hid (HPm2.out.contains_eq)
            have hbs : w.heap.size + 1 ≤ wr.heap.size := by have := HMB.out.size; simp at this; omega
            rcases Bool.eq_false_or_eq_true (inR z 0 ((n : Int) - 1)) with h1 | h1
            · have H1 := Lib.hid h1; clear h1
              rcases Bool.eq_false_or_eq_true (Q2.contains z) with h2 | h2
              · have H2 := Lib.hid h2
                have H2P : Hid (P2.contains z = true) := Lib.hid (by rw [hC.out]; exact h2)
                clear h2
                go_wp2_with (first | (go_at_call 116; refine (spec_l01In _ _ _ _).mono ?_; rintro e w1 ⟨rfl, hb1⟩; rw [H1.out]) | (go_at_call 117; refine (spec_l17Has _ P2 z _ (Ty.at_more HL2.out.at mC) (by omega)).mono ?_; rintro e w2 ⟨rfl, hb2⟩; rw [H2P.out]))
                go_roundw
                case rel => exact ⟨p + 1, g2, P2, by omega, by go_num, More.trans HMB.out mC, Lib.hid (by rw [HNX.out, H1.out, H2.out]; exact QueI.more HQ2.out mC), Lib.hid (HL2.out.more mC), Lib.hid (by rw [HNX.out, H1.out, H2.out]; exact HPm2.out), HPs2, HDj2⟩
                case measure => simp [intOf]; omega
              · have H2 := Lib.hid h2
                have H2P : Hid (P2.contains z = false) := Lib.hid (by rw [hC.out]; exact h2)
                clear h2
                go_wp2_with (first | (go_at_call 116; refine (spec_l01In _ _ _ _).mono ?_; rintro e w1 ⟨rfl, hb1⟩; rw [H1.out]) | (go_at_call 117; refine (spec_l17Has _ P2 z _ (Ty.at_more HL2.out.at mC) (by omega)).mono ?_; rintro e w2 ⟨rfl, hb2⟩; rw [H2P.out]) | (go_at_call 118; refine (spec_l17Put go2 0 co2 P2 z _ (Ty.at_more HL2.out.at mC) (by omega) H2P.out HOZ.out).mono ?_; rintro e w3 ⟨v3, rfl, hb3, F3⟩; have HF3 := Lib.hid F3; clear F3) | (at_builtin; refine wpList_pushQ w3 rfl _ _ 26 rfl (w.heap.size + 1) g2 3 i0 (.int .i64 0) 8 Try.underlying26 hi hz0 hz1 hz2 rfl rfl (HQ2.out.more mC) mC rfl (by simp) (y := z) rfl HOZ.out (Lib.hid (by rw [List.length_drop]; omega)) (by decide) ?_))
                intro v4 g4 w4 hq4 hg4 ht4
                have HQ4 := Lib.hid hq4; clear hq4
                have hw3 : More wr w3 := mC
                have hb4 : Hid (g2 < wr.heap.size ∧ w.heap.size + 1 ≤ g2) := Lib.hid (by have := HQ2.out.lt; omega)
                have hmw4 : More (w.alloc (.cells #[.int .i64 y0, .int .i64 y1, .int .i64 y2, .int .i64 y3, .slice a4 n4 c4, .slice a5 n5 c5, .slice a6 n6 c6, .slice a7 n7 c7, .slice a8 n8 c8, .slice (some ⟨b2, off2, none⟩) n c9] 80)) w4 := More.turn (More.trans HMB.out hw3) ht4 (fun k0 h0 => by simp at h0; subst h0; have := hb4.out; simp; omega)
                have hlo : Hid (∀ g, v3.ownBlock = some g → wr.heap.size ≤ g ∧ g < w3.heap.size) := Lib.hid (fun g hg => by
                  have h8 := ownsRow_lt HF3.out.1 hg
                  exact ⟨Nat.le_trans (More.size (show More wr _ from mC)) h8.1, h8.2⟩)
                go_wp2_with fail
                go_roundw
                case rel => exact ⟨p + 1, g4, putF P2 z, by omega, by go_num, hmw4,
                  Lib.hid (by rw [HNX.out, H1.out, H2.out]; show QueI _ _ _ _ ((Q2 ++ [z]).drop (q + 1)); rw [List.drop_append_of_le_length (by omega)]; exact HQ4.out),
                  Lib.hid ((HF3.out.turns ht4 (fun g hg h0 => by simp at h0; subst h0; have h8 := hlo.out _ hg; have := hb4.out; omega)).mono (Nat.le_trans hbs (More.size mC))),
                  Lib.hid (by rw [HNX.out, H1.out, H2.out]; exact (putF_perm P2 z).trans (HPm2.out.append_right [z])), Lib.hid (putF_sorted HPs2.out),
                  Lib.hid (fun h0 => by have h8 := hlo.out _ h0; have := hb4.out; rcases hg4 with h9 | h9 <;> omega)⟩
                case measure => simp [intOf]; omega
            · have H1 := Lib.hid h1; clear h1
              go_wp2_with (first | (go_at_call 116; refine (spec_l01In _ _ _ _).mono ?_; rintro e w1 ⟨rfl, hb1⟩; rw [H1.out]))
              go_roundw
              case rel => exact ⟨p + 1, g2, P2, by omega, by go_num, More.trans HMB.out mC, Lib.hid (by rw [HNX.out, H1.out]; exact QueI.more HQ2.out mC), Lib.hid (HL2.out.more mC), Lib.hid (by rw [HNX.out, H1.out]; exact HPm2.out), HPs2, HDj2⟩
              case measure => simp [intOf]; omega
          · obtain rfl : p = r := by omega
            have hnx : bfs L kk (q + 1) = bfAdd n (bfs L kk q) (row.take p) := by
              rw [HR.out, List.take_length, HN.out]
              exact bfs_next (by rw [← HLen.out]; exact hlt) HX.out HRow.out
            rw [← hnx] at HQ2 HPm2 hge hlp hlq hl2
            clear hnx
            obtain ⟨ao9, co9, e9⟩ := HL2.out.len
            subst e9
            obtain ⟨of2, cq2, rfl, -⟩ := HQ2.out
            go_wp2_with fail
            go_roundw
            case rel => exact ⟨q + 1, g2, P2, HMB.out, by omega, HQ2, HL2, HPm2, HPs2, HDj2⟩
            case measure => have := HDl.out; simp only [lenV, List.length_drop]; omega
      · have HQT : Hid (QueI (w.heap.size + 1) g wr (.slice (some ⟨g, off + 1, none⟩) (dl - 1) (cq - 1)) ((bfs L kk q).drop (q + 1))) := Lib.hid (by have h := QueI.tail HQ.out (off' := off + 1) (.inl rfl); rw [hrest] at h; exact h)
        go_wp2_with fail
        go_loopw [5, 6, 35] (fun vo vl j wr => ∃ (p g : Nat) (P : List Int), p ≤ r ∧ j = .int .i64 p ∧ More (w.alloc (.cells #[.int .i64 y0, .int .i64 y1, .int .i64 y2, .int .i64 y3, .slice a4 n4 c4, .slice a5 n5 c5, .slice a6 n6 c6, .slice a7 n7 c7, .slice a8 n8 c8, .slice (some ⟨b2, off2, none⟩) n c9] 80)) wr ∧ Hid (QueI (w.heap.size + 1) g wr vl ((bfAdd n (bfs L kk q) (row.take p)).drop (q + 1))) ∧ Hid (FlatOwn fInt (w.heap.size + 1) 3 wr vo P) ∧ Hid (P.Perm (bfAdd n (bfs L kk q) (row.take p))) ∧ Hid (P.Pairwise (fun a b => a ≤ b)) ∧ Hid (vo.ownBlock ≠ some g)) (fun _ _ j _ => r - (intOf j).toNat)
        case atStart => exact ⟨0, g, P, Nat.zero_le _, rfl, More.trans HMB.out mC, Lib.hid (QueI.more HQT.out mC), Lib.hid (HL.out.more mC), HPm, HPs, HDj⟩
        case round =>
          clear cy hc2 HBw
          try clear HMW HMB
          obtain ⟨p, g2, P2, hp, rfl, hm2, HQ2, HL2, HPm2, HPs2, HDj2⟩ := hrel
          have HMW := Lib.hid (More.trans (show More w (w.alloc (.cells #[.int .i64 y0, .int .i64 y1, .int .i64 y2, .int .i64 y3, .slice a4 n4 c4, .slice a5 n5 c5, .slice a6 n6 c6, .slice a7 n7 c7, .slice a8 n8 c8, .slice (some ⟨b2, off2, none⟩) n c9] 80)) from mC) hm2)
          have HMB := Lib.hid hm2
          have HBw := HB _ hm2
          have HOk : RegOk n (bfAdd n (bfs L kk q) (row.take p)) := by have h := bfs_ok HIL.out q; rw [← HN.out] at h; exact bfAdd_ok h
          have hge := bfAdd_len (n := n) (Q := bfs L kk q) (l := row.take p)
          rw [← HLen.out] at hge
          have hl2 := nodup_len _ _ HOk
          have hlp : P2.length ≤ (bfAdd n (bfs L kk q) (row.take p)).length := Nat.le_of_eq HPm2.out.length_eq
          have hlq : (bfAdd n (bfs L kk q) (row.take p)).length ≤ P2.length := Nat.le_of_eq HPm2.out.length_eq.symm
          clear HOk
          by_cases hlt2 : p < r
          · obtain ⟨b3, off3, z, hadr, hb3, hz, oz, cz0⟩ := int_el HRat.out (k := p) (by rw [← HR.out]; exact hlt2)
            subst hadr
            have hp0 : (0 : Int) ≤ (p : Int) := by omega
            have hp1 : (p : Int) < (r : Int) := by omega
            have cz : wr.cell? ⟨b3, off3 + p, none⟩ = some (.int .i64 z) := ((bcell HMW.out).1 _ _ hb3).trans cz0
            have HNX := Lib.hid (bfAdd_next (n := n) (Q := bfs L kk q) hz)
            have HOZ := Lib.hid oz
            clear hz cz0 oz
            obtain ⟨Q2, hQ2⟩ : ∃ Q2, Q2 = bfAdd n (bfs L kk q) (row.take p) := ⟨_, rfl⟩
            rw [← hQ2] at HNX hl2 hlp hlq hge HQ2 HPm2
            clear hQ2
            obtain ⟨go2, co2, rfl, hg2a, hg2b⟩ := own_form (n := P2.length) HL2.out.1 (by omega)
            obtain ⟨of2, cq2, rfl, -⟩ := HQ2.out
            obtain ⟨d2, hd2⟩ : ∃ d2, d2 = (Q2.drop (q + 1)).length := ⟨_, rfl⟩
            rw [← hd2] at HQ2 ⊢
            clear hd2
            have hC : Hid (P2.contains z = Q2.contains z) := Lib.hid (HPm2.out.contains_eq)
            have hbs : w.heap.size + 1 ≤ wr.heap.size := by have := HMB.out.size; simp at this; omega
            rcases Bool.eq_false_or_eq_true (inR z 0 ((n : Int) - 1)) with h1 | h1
            · have H1 := Lib.hid h1; clear h1
              rcases Bool.eq_false_or_eq_true (Q2.contains z) with h2 | h2
              · have H2 := Lib.hid h2
                have H2P : Hid (P2.contains z = true) := Lib.hid (by rw [hC.out]; exact h2)
                clear h2
                go_wp2_with (first | (go_at_call 116; refine (spec_l01In _ _ _ _).mono ?_; rintro e w1 ⟨rfl, hb1⟩; rw [H1.out]) | (go_at_call 117; refine (spec_l17Has _ P2 z _ (Ty.at_more HL2.out.at mC) (by omega)).mono ?_; rintro e w2 ⟨rfl, hb2⟩; rw [H2P.out]))
                go_roundw
                case rel => exact ⟨p + 1, g2, P2, by omega, by go_num, More.trans HMB.out mC, Lib.hid (by rw [HNX.out, H1.out, H2.out]; exact QueI.more HQ2.out mC), Lib.hid (HL2.out.more mC), Lib.hid (by rw [HNX.out, H1.out, H2.out]; exact HPm2.out), HPs2, HDj2⟩
                case measure => simp [intOf]; omega
              · have H2 := Lib.hid h2
                have H2P : Hid (P2.contains z = false) := Lib.hid (by rw [hC.out]; exact h2)
                clear h2
                go_wp2_with (first | (go_at_call 116; refine (spec_l01In _ _ _ _).mono ?_; rintro e w1 ⟨rfl, hb1⟩; rw [H1.out]) | (go_at_call 117; refine (spec_l17Has _ P2 z _ (Ty.at_more HL2.out.at mC) (by omega)).mono ?_; rintro e w2 ⟨rfl, hb2⟩; rw [H2P.out]) | (go_at_call 118; refine (spec_l17Put go2 0 co2 P2 z _ (Ty.at_more HL2.out.at mC) (by omega) H2P.out HOZ.out).mono ?_; rintro e w3 ⟨v3, rfl, hb3, F3⟩; have HF3 := Lib.hid F3; clear F3) | (at_builtin; refine wpList_pushQ w3 rfl _ _ 26 rfl (w.heap.size + 1) g2 3 i0 (.int .i64 0) 8 Try.underlying26 hi hz0 hz1 hz2 rfl rfl (HQ2.out.more mC) mC rfl (by simp) (y := z) rfl HOZ.out (Lib.hid (by rw [List.length_drop]; omega)) (by decide) ?_))
                intro v4 g4 w4 hq4 hg4 ht4
                have HQ4 := Lib.hid hq4; clear hq4
                have hw3 : More wr w3 := mC
                have hb4 : Hid (g2 < wr.heap.size ∧ w.heap.size + 1 ≤ g2) := Lib.hid (by have := HQ2.out.lt; omega)
                have hmw4 : More (w.alloc (.cells #[.int .i64 y0, .int .i64 y1, .int .i64 y2, .int .i64 y3, .slice a4 n4 c4, .slice a5 n5 c5, .slice a6 n6 c6, .slice a7 n7 c7, .slice a8 n8 c8, .slice (some ⟨b2, off2, none⟩) n c9] 80)) w4 := More.turn (More.trans HMB.out hw3) ht4 (fun k0 h0 => by simp at h0; subst h0; have := hb4.out; simp; omega)
                have hlo : Hid (∀ g, v3.ownBlock = some g → wr.heap.size ≤ g ∧ g < w3.heap.size) := Lib.hid (fun g hg => by
                  have h8 := ownsRow_lt HF3.out.1 hg
                  exact ⟨Nat.le_trans (More.size (show More wr _ from mC)) h8.1, h8.2⟩)
                go_wp2_with fail
                go_roundw
                case rel => exact ⟨p + 1, g4, putF P2 z, by omega, by go_num, hmw4,
                  Lib.hid (by rw [HNX.out, H1.out, H2.out]; show QueI _ _ _ _ ((Q2 ++ [z]).drop (q + 1)); rw [List.drop_append_of_le_length (by omega)]; exact HQ4.out),
                  Lib.hid ((HF3.out.turns ht4 (fun g hg h0 => by simp at h0; subst h0; have h8 := hlo.out _ hg; have := hb4.out; omega)).mono (Nat.le_trans hbs (More.size mC))),
                  Lib.hid (by rw [HNX.out, H1.out, H2.out]; exact (putF_perm P2 z).trans (HPm2.out.append_right [z])), Lib.hid (putF_sorted HPs2.out),
                  Lib.hid (fun h0 => by have h8 := hlo.out _ h0; have := hb4.out; rcases hg4 with h9 | h9 <;> omega)⟩
                case measure => simp [intOf]; omega
            · have H1 := Lib.hid h1; clear h1
              go_wp2_with (first | (go_at_call 116; refine (spec_l01In _ _ _ _).mono ?_; rintro e w1 ⟨rfl, hb1⟩; rw [H1.out]))
              go_roundw
              case rel => exact ⟨p + 1, g2, P2, by omega, by go_num, More.trans HMB.out mC, Lib.hid (by rw [HNX.out, H1.out]; exact QueI.more HQ2.out mC), Lib.hid (HL2.out.more mC), Lib.hid (by rw [HNX.out, H1.out]; exact HPm2.out), HPs2, HDj2⟩
              case measure => simp [intOf]; omega
          · obtain rfl : p = r := by omega
            have hnx : bfs L kk (q + 1) = bfAdd n (bfs L kk q) (row.take p) := by
              rw [HR.out, List.take_length, HN.out]
              exact bfs_next (by rw [← HLen.out]; exact hlt) HX.out HRow.out
            rw [← hnx] at HQ2 HPm2 hge hlp hlq hl2
            clear hnx
            obtain ⟨ao9, co9, e9⟩ := HL2.out.len
            subst e9
            obtain ⟨of2, cq2, rfl, -⟩ := HQ2.out
            go_wp2_with fail
            go_roundw
            case rel => exact ⟨q + 1, g2, P2, HMB.out, by omega, HQ2, HL2, HPm2, HPs2, HDj2⟩
            case measure => have := HDl.out; simp only [lenV, List.length_drop]; omega
    · obtain rfl : q = len := by omega
      have hend := bfs_end HIL.out (i := q) (by rw [← HLen.out]; exact Nat.le_refl _)
      have hd0 : q - q = 0 := by omega
      rw [hd0]
      go_wp2_with fail
      go_ret
      refine ⟨_, rfl, HMW.out, Ty.fresh_mono ?_ (Nat.le_succ _)⟩
      have hreg : regF L kk = P := by
        unfold regF
        rw [if_pos HIL.out, hend]
        refine sorted_eq ((List.mergeSort_perm _ _).trans HPm.out.symm) (mergeSort_pw _) HPs.out
      rw [hreg]
      exact HL.out.fresh
end Go.Proofs.Ytbbibfeblaocfaa
