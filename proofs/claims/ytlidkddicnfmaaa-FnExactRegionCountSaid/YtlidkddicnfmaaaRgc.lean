/- RegionCount: how many parts the slices of a road have together: the reference's and the program's. -/
import Derived.Test.YtlidkddicnfmaaaCnp
namespace Go.Proofs.Ytlidkddicnfmaaa
open Go.RowKit
def prt (x : QSlice) : Nat := ndc x.2.2.2.2.2.2.2
theorem ndc_le (l : List Int) : ndc l ≤ l.length := by rw [← ndk_all]; exact ndk_le l _
theorem prt_le (x : QSlice) : prt x ≤ wSlice x := by
  have h := ndc_le x.2.2.2.2.2.2.2
  unfold prt wSlice wIntS
  omega
theorem wsum_mono {α : Type} {f g : α → Nat} (h : ∀ x, f x ≤ g x) (l : List α) : wsum f l ≤ wsum g l := by
  unfold wsum
  induction l with
  | nil => exact Nat.le_refl _
  | cons x l ih => simp only [List.map_cons, List.sum_cons]; have := h x; omega
theorem prt_sum {l : List QSlice} (hl : wSliceS l ≤ 1048576) : wsum prt l ≤ 1048576 := by
  have h := wsum_mono prt_le l
  unfold wSliceS at hl
  omega
set_option maxRecDepth 8000 in
set_option maxHeartbeats 6400000 in
theorem spec_l19Base (v : Value) (l : List QSlice) (w : World) (hv : tSlcS.at w [v] l) (hw : wSliceS l ≤ 1048576) :
    Calls Try.prog 124 #[v, .int .i64 (l.length : Nat)] w fun e w' => e = .returned (.int .i64 (wsum prt l : Nat)) ∧ More w w' := by
  obtain ⟨ao, cap, rfl⟩ := sl_len hv
  have HV := Lib.hid hv; clear hv
  have HL := Lib.hid hw; clear hw
  have hl : l.length ≤ 1048576 := by have h := HL.out; unfold wSliceS at h; omega
  obtain ⟨n, hn⟩ : ∃ n, n = l.length := ⟨_, rfl⟩
  rw [← hn] at HV hl ⊢
  have HN := Lib.hid hn; clear hn
  go_enter Try.func124, Try.ntmps124
  go_wp2_with fail
  go_loopw [5, 10] (fun v i wr => ∃ k : Nat, k ≤ n ∧ i = .int .i64 k ∧ v = .int .i64 (wsum prt (l.take k) : Nat) ∧ More w wr) (fun _ i _ => n - (intOf i).toNat)
  case atStart => exact ⟨0, Nat.zero_le _, rfl, rfl, mC⟩
  case round =>
    obtain ⟨k, hk, rfl, rfl, hm⟩ := hrel
    by_cases hlt : k < n
    · skip
      obtain ⟨b, off, x0, a6', n6', c6', a7', n7', c7', a8', n8', c8', a9', n9', c9', a10', n10', c10', hadr, hblt, hx, hat, g0, g1, g2, g3, g4, g5, g6, g7, g8, g9, g10⟩ := el_Slice (Ty.at_more HV.out hm) (k := k) (by rw [← HN.out]; exact hlt)
      cases hadr
      have HX := Lib.hid hx; have HA := Lib.hid hat; clear hx hat
      have hi0 : (0 : Int) ≤ (k : Int) := by omega
      have hi1 : (k : Int) < (n : Int) := by omega
      have nb : b ≠ wr.heap.size := by omega
      have HWx : Hid (wSlice x0 ≤ 1048576) := Lib.hid (by have h1 := wsum_el (f := wSlice) HX.out; have h2 := HL.out; unfold wSliceS at h2; omega)
      have hnx : wsum prt (l.take (k + 1)) = wsum prt (l.take k) + prt x0 := wsum_next HX.out
      have hle := wsum_take prt l (k + 1)
      have hle2 := prt_sum HL.out
      obtain ⟨p, hp⟩ : ∃ p, p = prt x0 := ⟨_, rfl⟩
      obtain ⟨s, hs⟩ : ∃ s, s = wsum prt (l.take k) := ⟨_, rfl⟩
      have hsp : s + p ≤ 1048576 := by omega
      have HNX := Lib.hid hnx; have HP := Lib.hid hp; have HS := Lib.hid hs
      rw [← hs]
      clear hnx hle hle2 hp hs
      go_wp2_with fail
      refine (spec_CountParts _ x0 _ (Ty.at_more HA.out mC) HWx.out).mono ?_
      rintro e w1 ⟨rfl, hb1⟩
      rw [show ndc x0.2.2.2.2.2.2.2 = p from HP.out.symm]
      go_wp2_with fail
      go_roundw
      case rel => exact ⟨k + 1, by omega, by go_num, by rw [HNX.out, ← HS.out, ← HP.out]; go_num, More.trans hm mC⟩
      case measure => simp [intOf]; omega
    · obtain rfl : k = n := by omega
      go_wp2_with fail
      go_ret
      exact ⟨ret_int (by rw [HN.out, List.take_length]), hm⟩
set_option maxRecDepth 8000 in
set_option maxHeartbeats 6400000 in
theorem impl_firstRegion (cs : List Value) (x : QRoad) (w : World) (hv : tRoad.at w cs x) (hw : wRoad x ≤ 1048576) :
    Calls Try.prog 125 #[.agg cs.toArray, .int .i64 (x.2.1.length : Nat)] w fun e w' => e = .returned (.int .i64 (wsum prt x.2.1 : Nat)) ∧ More w w' := by
  obtain ⟨k0, d0, rfl, f0, e0⟩ := at_prod hv
  obtain ⟨k1, d1, rfl, f1, e1⟩ := at_prod e0
  obtain ⟨k2, d2, rfl, f2, e2⟩ := at_prod e1
  have f3 := e2; clear e2
  obtain ⟨a4, n4, c4, a5, n5, c5, a6, n6, c6, rfl⟩ := sh_Scene f0
  obtain ⟨a7, n7, c7, rfl⟩ := sh_slice f1
  obtain ⟨ao7, cap7, e7⟩ := sl_len (show tSlcS.at w [.slice a7 n7 c7] x.2.1 from f1)
  cases e7
  obtain ⟨a8, n8, c8, rfl⟩ := sh_slice f2
  obtain ⟨a9, n9, c9, rfl⟩ := sh_slice f3
  have HV : Hid (tRoad.at w [.int .i64 x.1.1.1, .int .i64 x.1.1.2, .int .i64 x.1.2.1.1, .int .i64 x.1.2.1.2, .slice a4 n4 c4, .slice a5 n5 c5, .slice a6 n6 c6, .slice a7 x.2.1.length c7, .slice a8 n8 c8, .slice a9 n9 c9] x) := Lib.hid hv
  have HW := Lib.hid hw
  have FL : Hid (tSlcS.at w [.slice a7 x.2.1.length c7] x.2.1) := Lib.hid f1
  have HL : Hid (wSliceS x.2.1 ≤ 1048576) := Lib.hid (by have h := hw; unfold wRoad at h; omega)
  have hl : x.2.1.length ≤ 1048576 := by have h := HL.out; unfold wSliceS at h; omega
  clear f0 f1 f2 f3 e0 e1 hw hv
  show Calls Try.prog 125 #[.agg #[.int .i64 x.1.1.1, .int .i64 x.1.1.2, .int .i64 x.1.2.1.1, .int .i64 x.1.2.1.2, .slice a4 n4 c4, .slice a5 n5 c5, .slice a6 n6 c6, .slice a7 x.2.1.length c7, .slice a8 n8 c8, .slice a9 n9 c9], .int .i64 (x.2.1.length : Nat)] w _
  have hcap : x.2.1.length ≤ c7 := by
    obtain ⟨ao', cap', h0, q1, q2, q3, _⟩ := slRd_at FL.out
    simp at h0
    obtain ⟨rfl, rfl⟩ := h0
    omega
  have hnil : a7 = none → x.2.1.length = 0 := by
    rintro rfl
    obtain ⟨ao', cap', h0, q1, q2, q3, _⟩ := slRd_at FL.out
    simp at h0
    obtain ⟨rfl, rfl⟩ := h0
    have := q3 rfl
    omega
  have HNIL := Lib.hid hnil; clear hnil
  obtain ⟨l, el⟩ : ∃ l, l = x.2.1 := ⟨_, rfl⟩
  rw [← el] at FL HL hl hcap HV HNIL ⊢
  obtain ⟨n, hn⟩ : ∃ n, n = l.length := ⟨_, rfl⟩
  rw [← hn] at FL hl hcap HV HNIL ⊢
  have HN := Lib.hid hn; clear hn el HV
  have hc1 : (n : Int) ≤ (c7 : Int) := by omega
  cases a7 with
  | none =>
    have h0 : n = 0 := HNIL.out rfl
    subst h0
    have HX : More (w.alloc (.cells #[.int .i64 x.1.1.1, .int .i64 x.1.1.2, .int .i64 x.1.2.1.1, .int .i64 x.1.2.1.2, .slice a4 n4 c4, .slice a5 n5 c5, .slice a6 n6 c6, .slice none 0 c7, .slice a8 n8 c8, .slice a9 n9 c9] 85)) (w.alloc (.cells #[.int .i64 x.1.1.1, .int .i64 x.1.1.2, .int .i64 x.1.2.1.1, .int .i64 x.1.2.1.2, .slice a4 n4 c4, .slice a5 n5 c5, .slice a6 n6 c6, .slice none 0 c7, .slice a8 n8 c8, .slice a9 n9 c9] 85)) := More.refl _
    have HB : ∀ w', More (w.alloc (.cells #[.int .i64 x.1.1.1, .int .i64 x.1.1.2, .int .i64 x.1.2.1.1, .int .i64 x.1.2.1.2, .slice a4 n4 c4, .slice a5 n5 c5, .slice a6 n6 c6, .slice none 0 c7, .slice a8 n8 c8, .slice a9 n9 c9] 85)) w' → w'.cell? ⟨w.heap.size, 0, none⟩ = some (.int .i64 x.1.1.1) ∧ w'.cell? ⟨w.heap.size, 1, none⟩ = some (.int .i64 x.1.1.2) ∧ w'.cell? ⟨w.heap.size, 2, none⟩ = some (.int .i64 x.1.2.1.1) ∧ w'.cell? ⟨w.heap.size, 3, none⟩ = some (.int .i64 x.1.2.1.2) ∧ w'.cell? ⟨w.heap.size, 4, none⟩ = some (.slice a4 n4 c4) ∧ w'.cell? ⟨w.heap.size, 5, none⟩ = some (.slice a5 n5 c5) ∧ w'.cell? ⟨w.heap.size, 6, none⟩ = some (.slice a6 n6 c6) ∧ w'.cell? ⟨w.heap.size, 7, none⟩ = some (.slice none 0 c7) ∧ w'.cell? ⟨w.heap.size, 8, none⟩ = some (.slice a8 n8 c8) ∧ w'.cell? ⟨w.heap.size, 9, none⟩ = some (.slice a9 n9 c9) ∧ (∀ j, w'.frozen? ⟨w.heap.size, j, none⟩ = false) := fun w' h => ⟨box_new (by simp) h 0, box_new (by simp) h 1, box_new (by simp) h 2, box_new (by simp) h 3, box_new (by simp) h 4, box_new (by simp) h 5, box_new (by simp) h 6, box_new (by simp) h 7, box_new (by simp) h 8, box_new (by simp) h 9, fun j => box_free (by simp) h j⟩
    go_enter Try.func125, Try.ntmps125
    go_wp2_with fail
    go_loopw [5, 13] (fun v i wr => i = .int .i64 0 ∧ v = .int .i64 0 ∧ More (w.alloc (.cells #[.int .i64 x.1.1.1, .int .i64 x.1.1.2, .int .i64 x.1.2.1.1, .int .i64 x.1.2.1.2, .slice a4 n4 c4, .slice a5 n5 c5, .slice a6 n6 c6, .slice none 0 c7, .slice a8 n8 c8, .slice a9 n9 c9] 85)) wr) (fun _ i _ => 0)
    case atStart => exact ⟨rfl, rfl, mC⟩
    case round =>
      obtain ⟨rfl, rfl, hm⟩ := hrel
      go_wp2_with fail
      go_ret
      exact ⟨ret_int (by rw [List.eq_nil_of_length_eq_zero HN.out.symm]; rfl), More.trans (show More w (w.alloc (.cells #[.int .i64 x.1.1.1, .int .i64 x.1.1.2, .int .i64 x.1.2.1.1, .int .i64 x.1.2.1.2, .slice a4 n4 c4, .slice a5 n5 c5, .slice a6 n6 c6, .slice none 0 c7, .slice a8 n8 c8, .slice a9 n9 c9] 85)) from mC) hm⟩
  | some ad =>
    have HX : More (w.alloc (.cells #[.int .i64 x.1.1.1, .int .i64 x.1.1.2, .int .i64 x.1.2.1.1, .int .i64 x.1.2.1.2, .slice a4 n4 c4, .slice a5 n5 c5, .slice a6 n6 c6, .slice (some ad) n c7, .slice a8 n8 c8, .slice a9 n9 c9] 85)) (w.alloc (.cells #[.int .i64 x.1.1.1, .int .i64 x.1.1.2, .int .i64 x.1.2.1.1, .int .i64 x.1.2.1.2, .slice a4 n4 c4, .slice a5 n5 c5, .slice a6 n6 c6, .slice (some ad) n c7, .slice a8 n8 c8, .slice a9 n9 c9] 85)) := More.refl _
    have HB : ∀ w', More (w.alloc (.cells #[.int .i64 x.1.1.1, .int .i64 x.1.1.2, .int .i64 x.1.2.1.1, .int .i64 x.1.2.1.2, .slice a4 n4 c4, .slice a5 n5 c5, .slice a6 n6 c6, .slice (some ad) n c7, .slice a8 n8 c8, .slice a9 n9 c9] 85)) w' → w'.cell? ⟨w.heap.size, 0, none⟩ = some (.int .i64 x.1.1.1) ∧ w'.cell? ⟨w.heap.size, 1, none⟩ = some (.int .i64 x.1.1.2) ∧ w'.cell? ⟨w.heap.size, 2, none⟩ = some (.int .i64 x.1.2.1.1) ∧ w'.cell? ⟨w.heap.size, 3, none⟩ = some (.int .i64 x.1.2.1.2) ∧ w'.cell? ⟨w.heap.size, 4, none⟩ = some (.slice a4 n4 c4) ∧ w'.cell? ⟨w.heap.size, 5, none⟩ = some (.slice a5 n5 c5) ∧ w'.cell? ⟨w.heap.size, 6, none⟩ = some (.slice a6 n6 c6) ∧ w'.cell? ⟨w.heap.size, 7, none⟩ = some (.slice (some ad) n c7) ∧ w'.cell? ⟨w.heap.size, 8, none⟩ = some (.slice a8 n8 c8) ∧ w'.cell? ⟨w.heap.size, 9, none⟩ = some (.slice a9 n9 c9) ∧ (∀ j, w'.frozen? ⟨w.heap.size, j, none⟩ = false) := fun w' h => ⟨box_new (by simp) h 0, box_new (by simp) h 1, box_new (by simp) h 2, box_new (by simp) h 3, box_new (by simp) h 4, box_new (by simp) h 5, box_new (by simp) h 6, box_new (by simp) h 7, box_new (by simp) h 8, box_new (by simp) h 9, fun j => box_free (by simp) h j⟩
    go_enter Try.func125, Try.ntmps125
    go_wp2_with fail
    go_loopw [5, 13] (fun v i wr => ∃ k : Nat, k ≤ n ∧ i = .int .i64 k ∧ v = .int .i64 (wsum prt (l.take k) : Nat) ∧ More (w.alloc (.cells #[.int .i64 x.1.1.1, .int .i64 x.1.1.2, .int .i64 x.1.2.1.1, .int .i64 x.1.2.1.2, .slice a4 n4 c4, .slice a5 n5 c5, .slice a6 n6 c6, .slice (some ad) n c7, .slice a8 n8 c8, .slice a9 n9 c9] 85)) wr) (fun _ i _ => n - (intOf i).toNat)
    case atStart => exact ⟨0, Nat.zero_le _, rfl, rfl, mC⟩
    case round =>
      obtain ⟨k, hk, rfl, rfl, hm⟩ := hrel
      have HMW := Lib.hid (More.trans (show More w (w.alloc (.cells #[.int .i64 x.1.1.1, .int .i64 x.1.1.2, .int .i64 x.1.2.1.1, .int .i64 x.1.2.1.2, .slice a4 n4 c4, .slice a5 n5 c5, .slice a6 n6 c6, .slice (some ad) n c7, .slice a8 n8 c8, .slice a9 n9 c9] 85)) from mC) hm)
      by_cases hlt : k < n
      · skip
        obtain ⟨b, off, x0, a6', n6', c6', a7', n7', c7', a8', n8', c8', a9', n9', c9', a10', n10', c10', hadr, hblt, hx, hat, g0, g1, g2, g3, g4, g5, g6, g7, g8, g9, g10⟩ := el_Slice (Ty.at_more FL.out HMW.out) (k := k) (by rw [← HN.out]; exact hlt)
        cases hadr
        have HX := Lib.hid hx; have HA := Lib.hid hat; clear hx hat
        have hi0 : (0 : Int) ≤ (k : Int) := by omega
        have hi1 : (k : Int) < (n : Int) := by omega
        have nb : b ≠ wr.heap.size := by omega
        have HWx : Hid (wSlice x0 ≤ 1048576) := Lib.hid (by have h1 := wsum_el (f := wSlice) HX.out; have h2 := HL.out; unfold wSliceS at h2; omega)
        have hnx : wsum prt (l.take (k + 1)) = wsum prt (l.take k) + prt x0 := wsum_next HX.out
        have hle := wsum_take prt l (k + 1)
        have hle2 := prt_sum HL.out
        obtain ⟨p, hp⟩ : ∃ p, p = prt x0 := ⟨_, rfl⟩
        obtain ⟨s, hs⟩ : ∃ s, s = wsum prt (l.take k) := ⟨_, rfl⟩
        have hsp : s + p ≤ 1048576 := by omega
        have HNX := Lib.hid hnx; have HP := Lib.hid hp; have HS := Lib.hid hs
        rw [← hs]
        clear hnx hle hle2 hp hs
        go_wp2_with fail
        refine (impl_CountParts _ x0 _ (Ty.at_more HA.out mC) HWx.out).mono ?_
        rintro e w1 ⟨rfl, hb1⟩
        rw [show ndc x0.2.2.2.2.2.2.2 = p from HP.out.symm]
        go_wp2_with fail
        go_roundw
        case rel => exact ⟨k + 1, by omega, by go_num, by rw [HNX.out, ← HS.out, ← HP.out]; go_num, More.trans hm mC⟩
        case measure => simp [intOf]; omega
      · obtain rfl : k = n := by omega
        go_wp2_with fail
        go_ret
        exact ⟨ret_int (by rw [HN.out, List.take_length]), HMW.out⟩
set_option maxRecDepth 8000 in
set_option maxHeartbeats 6400000 in
theorem spec_RegionCount (cs : List Value) (x : QRoad) (w : World) (hv : tRoad.at w cs x) (hw : wRoad x ≤ 1048576) :
    Calls Try.prog 50 #[.agg cs.toArray] w fun e w' => e = .returned (.int .i64 (wsum prt x.2.1 : Nat)) ∧ More w w' := by
  obtain ⟨k0, d0, rfl, f0, e0⟩ := at_prod hv
  obtain ⟨k1, d1, rfl, f1, e1⟩ := at_prod e0
  obtain ⟨k2, d2, rfl, f2, e2⟩ := at_prod e1
  have f3 := e2; clear e2
  obtain ⟨a4, n4, c4, a5, n5, c5, a6, n6, c6, rfl⟩ := sh_Scene f0
  obtain ⟨a7, n7, c7, rfl⟩ := sh_slice f1
  obtain ⟨ao7, cap7, e7⟩ := sl_len (show tSlcS.at w [.slice a7 n7 c7] x.2.1 from f1)
  cases e7
  obtain ⟨a8, n8, c8, rfl⟩ := sh_slice f2
  obtain ⟨a9, n9, c9, rfl⟩ := sh_slice f3
  have HV : Hid (tRoad.at w [.int .i64 x.1.1.1, .int .i64 x.1.1.2, .int .i64 x.1.2.1.1, .int .i64 x.1.2.1.2, .slice a4 n4 c4, .slice a5 n5 c5, .slice a6 n6 c6, .slice a7 x.2.1.length c7, .slice a8 n8 c8, .slice a9 n9 c9] x) := Lib.hid hv
  have HW := Lib.hid hw
  have FL : Hid (tSlcS.at w [.slice a7 x.2.1.length c7] x.2.1) := Lib.hid f1
  have HL : Hid (wSliceS x.2.1 ≤ 1048576) := Lib.hid (by have h := hw; unfold wRoad at h; omega)
  have hl : x.2.1.length ≤ 1048576 := by have h := HL.out; unfold wSliceS at h; omega
  clear f0 f1 f2 f3 e0 e1 hw hv
  show Calls Try.prog 50 #[.agg #[.int .i64 x.1.1.1, .int .i64 x.1.1.2, .int .i64 x.1.2.1.1, .int .i64 x.1.2.1.2, .slice a4 n4 c4, .slice a5 n5 c5, .slice a6 n6 c6, .slice a7 x.2.1.length c7, .slice a8 n8 c8, .slice a9 n9 c9]] w _
  have HX : More (w.alloc (.cells #[.int .i64 x.1.1.1, .int .i64 x.1.1.2, .int .i64 x.1.2.1.1, .int .i64 x.1.2.1.2, .slice a4 n4 c4, .slice a5 n5 c5, .slice a6 n6 c6, .slice a7 x.2.1.length c7, .slice a8 n8 c8, .slice a9 n9 c9] 85)) (w.alloc (.cells #[.int .i64 x.1.1.1, .int .i64 x.1.1.2, .int .i64 x.1.2.1.1, .int .i64 x.1.2.1.2, .slice a4 n4 c4, .slice a5 n5 c5, .slice a6 n6 c6, .slice a7 x.2.1.length c7, .slice a8 n8 c8, .slice a9 n9 c9] 85)) := More.refl _
  have HB : ∀ w', More (w.alloc (.cells #[.int .i64 x.1.1.1, .int .i64 x.1.1.2, .int .i64 x.1.2.1.1, .int .i64 x.1.2.1.2, .slice a4 n4 c4, .slice a5 n5 c5, .slice a6 n6 c6, .slice a7 x.2.1.length c7, .slice a8 n8 c8, .slice a9 n9 c9] 85)) w' → w'.cell? ⟨w.heap.size, 0, none⟩ = some (.int .i64 x.1.1.1) ∧ w'.cell? ⟨w.heap.size, 1, none⟩ = some (.int .i64 x.1.1.2) ∧ w'.cell? ⟨w.heap.size, 2, none⟩ = some (.int .i64 x.1.2.1.1) ∧ w'.cell? ⟨w.heap.size, 3, none⟩ = some (.int .i64 x.1.2.1.2) ∧ w'.cell? ⟨w.heap.size, 4, none⟩ = some (.slice a4 n4 c4) ∧ w'.cell? ⟨w.heap.size, 5, none⟩ = some (.slice a5 n5 c5) ∧ w'.cell? ⟨w.heap.size, 6, none⟩ = some (.slice a6 n6 c6) ∧ w'.cell? ⟨w.heap.size, 7, none⟩ = some (.slice a7 x.2.1.length c7) ∧ w'.cell? ⟨w.heap.size, 8, none⟩ = some (.slice a8 n8 c8) ∧ w'.cell? ⟨w.heap.size, 9, none⟩ = some (.slice a9 n9 c9) ∧ (∀ j, w'.frozen? ⟨w.heap.size, j, none⟩ = false) := fun w' h => ⟨box_new (by simp) h 0, box_new (by simp) h 1, box_new (by simp) h 2, box_new (by simp) h 3, box_new (by simp) h 4, box_new (by simp) h 5, box_new (by simp) h 6, box_new (by simp) h 7, box_new (by simp) h 8, box_new (by simp) h 9, fun j => box_free (by simp) h j⟩
  go_enter Try.func50, Try.ntmps50
  go_wp2_with (go_at_call 124; refine (spec_l19Base _ x.2.1 _ (Ty.at_more FL.out mC) HL.out).mono ?_; rintro e w1 ⟨rfl, hb1⟩)
  go_ret
  exact ⟨rfl, mC⟩
set_option maxRecDepth 8000 in
set_option maxHeartbeats 6400000 in
theorem impl_RegionCount (cs : List Value) (x : QRoad) (w : World) (hv : tRoad.at w cs x) (hw : wRoad x ≤ 1048576) :
    Calls Try.prog 51 #[.agg cs.toArray] w fun e w' => e = .returned (.int .i64 (wsum prt x.2.1 : Nat)) ∧ More w w' := by
  obtain ⟨k0, d0, rfl, f0, e0⟩ := at_prod hv
  obtain ⟨k1, d1, rfl, f1, e1⟩ := at_prod e0
  obtain ⟨k2, d2, rfl, f2, e2⟩ := at_prod e1
  have f3 := e2; clear e2
  obtain ⟨a4, n4, c4, a5, n5, c5, a6, n6, c6, rfl⟩ := sh_Scene f0
  obtain ⟨a7, n7, c7, rfl⟩ := sh_slice f1
  obtain ⟨ao7, cap7, e7⟩ := sl_len (show tSlcS.at w [.slice a7 n7 c7] x.2.1 from f1)
  cases e7
  obtain ⟨a8, n8, c8, rfl⟩ := sh_slice f2
  obtain ⟨a9, n9, c9, rfl⟩ := sh_slice f3
  have HV : Hid (tRoad.at w [.int .i64 x.1.1.1, .int .i64 x.1.1.2, .int .i64 x.1.2.1.1, .int .i64 x.1.2.1.2, .slice a4 n4 c4, .slice a5 n5 c5, .slice a6 n6 c6, .slice a7 x.2.1.length c7, .slice a8 n8 c8, .slice a9 n9 c9] x) := Lib.hid hv
  have HW := Lib.hid hw
  have FL : Hid (tSlcS.at w [.slice a7 x.2.1.length c7] x.2.1) := Lib.hid f1
  have HL : Hid (wSliceS x.2.1 ≤ 1048576) := Lib.hid (by have h := hw; unfold wRoad at h; omega)
  have hl : x.2.1.length ≤ 1048576 := by have h := HL.out; unfold wSliceS at h; omega
  clear f0 f1 f2 f3 e0 e1 hw hv
  show Calls Try.prog 51 #[.agg #[.int .i64 x.1.1.1, .int .i64 x.1.1.2, .int .i64 x.1.2.1.1, .int .i64 x.1.2.1.2, .slice a4 n4 c4, .slice a5 n5 c5, .slice a6 n6 c6, .slice a7 x.2.1.length c7, .slice a8 n8 c8, .slice a9 n9 c9]] w _
  have HX : More (w.alloc (.cells #[.int .i64 x.1.1.1, .int .i64 x.1.1.2, .int .i64 x.1.2.1.1, .int .i64 x.1.2.1.2, .slice a4 n4 c4, .slice a5 n5 c5, .slice a6 n6 c6, .slice a7 x.2.1.length c7, .slice a8 n8 c8, .slice a9 n9 c9] 85)) (w.alloc (.cells #[.int .i64 x.1.1.1, .int .i64 x.1.1.2, .int .i64 x.1.2.1.1, .int .i64 x.1.2.1.2, .slice a4 n4 c4, .slice a5 n5 c5, .slice a6 n6 c6, .slice a7 x.2.1.length c7, .slice a8 n8 c8, .slice a9 n9 c9] 85)) := More.refl _
  have HB : ∀ w', More (w.alloc (.cells #[.int .i64 x.1.1.1, .int .i64 x.1.1.2, .int .i64 x.1.2.1.1, .int .i64 x.1.2.1.2, .slice a4 n4 c4, .slice a5 n5 c5, .slice a6 n6 c6, .slice a7 x.2.1.length c7, .slice a8 n8 c8, .slice a9 n9 c9] 85)) w' → w'.cell? ⟨w.heap.size, 0, none⟩ = some (.int .i64 x.1.1.1) ∧ w'.cell? ⟨w.heap.size, 1, none⟩ = some (.int .i64 x.1.1.2) ∧ w'.cell? ⟨w.heap.size, 2, none⟩ = some (.int .i64 x.1.2.1.1) ∧ w'.cell? ⟨w.heap.size, 3, none⟩ = some (.int .i64 x.1.2.1.2) ∧ w'.cell? ⟨w.heap.size, 4, none⟩ = some (.slice a4 n4 c4) ∧ w'.cell? ⟨w.heap.size, 5, none⟩ = some (.slice a5 n5 c5) ∧ w'.cell? ⟨w.heap.size, 6, none⟩ = some (.slice a6 n6 c6) ∧ w'.cell? ⟨w.heap.size, 7, none⟩ = some (.slice a7 x.2.1.length c7) ∧ w'.cell? ⟨w.heap.size, 8, none⟩ = some (.slice a8 n8 c8) ∧ w'.cell? ⟨w.heap.size, 9, none⟩ = some (.slice a9 n9 c9) ∧ (∀ j, w'.frozen? ⟨w.heap.size, j, none⟩ = false) := fun w' h => ⟨box_new (by simp) h 0, box_new (by simp) h 1, box_new (by simp) h 2, box_new (by simp) h 3, box_new (by simp) h 4, box_new (by simp) h 5, box_new (by simp) h 6, box_new (by simp) h 7, box_new (by simp) h 8, box_new (by simp) h 9, fun j => box_free (by simp) h j⟩
  go_enter Try.func51, Try.ntmps51
  go_wp2_with (go_at_call 125; refine (impl_firstRegion _ x _ (Ty.at_more HV.out mC) HW.out).mono ?_; rintro e w1 ⟨rfl, hb1⟩)
  go_ret
  exact ⟨rfl, mC⟩
end Go.Proofs.Ytlidkddicnfmaaa
