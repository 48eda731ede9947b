/- Several texts laid together; each has its own word at its head. -/
import Derived.Test.YtnbefpfijaimjaaGreatDoorRows
import Derived.Test.YtnbefpfijaimjaaGreatDoorGBase
import Derived.Deep.RegionHeld3
/- Contracts of the small functions on vectors: whether one is valid, copies, comparisons, sizes, marks. -/
namespace Go.Proofs.YtnbefpfijaimjaaGreatDoor
open Go.RowKit

def inR (n lo hi : Int) : Bool := decide (lo ≤ n ∧ n ≤ hi)
theorem inR_iff {n lo hi : Int} : inR n lo hi = true ↔ lo ≤ n ∧ n ≤ hi := by simp [inR]
theorem inR_not {n lo hi : Int} : inR n lo hi = false ↔ ¬ (lo ≤ n ∧ n ≤ hi) := by unfold inR; exact decide_eq_false_iff_not
def isV (v : QV) : Bool := inR v.1 (-1000) 1000 && inR v.2 (-1000) 1000
theorem isV_iff {v : QV} : isV v = true ↔ (-1000 ≤ v.1 ∧ v.1 ≤ 1000) ∧ (-1000 ≤ v.2 ∧ v.2 ≤ 1000) := by unfold isV; rw [Bool.and_eq_true, inR_iff, inR_iff]

set_option maxHeartbeats 400000 in
theorem impl_within (n lo hi : Int) (w : World) : Calls Tryz.prog 69 #[.int .i64 n, .int .i64 lo, .int .i64 hi] w fun e w' => e = .returned (.bool (inR n lo hi)) ∧ More w w' := by
  by_cases h1 : lo ≤ n
  · by_cases h2 : n ≤ hi
    · go_enter Tryz.func69, Tryz.ntmps69
      go_wp2
      go_ret
      exact ⟨ret_bool (inR_iff.2 ⟨h1, h2⟩).symm, More.refl _⟩
    · go_enter Tryz.func69, Tryz.ntmps69
      go_wp2
      go_ret
      exact ⟨ret_bool (inR_not.2 (by omega)).symm, More.refl _⟩
  · go_enter Tryz.func69, Tryz.ntmps69
    go_wp2
    go_ret
    exact ⟨ret_bool (inR_not.2 (by omega)).symm, More.refl _⟩
set_option maxHeartbeats 400000 in
theorem spec_l01In (n lo hi : Int) (w : World) : Calls Tryz.prog 149 #[.int .i64 n, .int .i64 lo, .int .i64 hi] w fun e w' => e = .returned (.bool (inR n lo hi)) ∧ More w w' := by
  by_cases h1 : lo ≤ n
  · by_cases h2 : n ≤ hi
    · go_enter Tryz.func149, Tryz.ntmps149
      go_wp2
      go_ret
      exact ⟨ret_bool (inR_iff.2 ⟨h1, h2⟩).symm, More.refl _⟩
    · go_enter Tryz.func149, Tryz.ntmps149
      go_wp2
      go_ret
      exact ⟨ret_bool (inR_not.2 (by omega)).symm, More.refl _⟩
  · go_enter Tryz.func149, Tryz.ntmps149
    go_wp2
    go_ret
    exact ⟨ret_bool (inR_not.2 (by omega)).symm, More.refl _⟩
set_option maxHeartbeats 400000 in
theorem impl_isVec (x y : Int) (w : World) : Calls Tryz.prog 34 #[.agg #[.int .i64 x, .int .i64 y]] w fun e w' => e = .returned (.bool (isV (x, y))) ∧ More w w' := by
  rcases Bool.eq_false_or_eq_true (inR x (-1000) 1000) with h1 | h1
  · go_enter Tryz.func34, Tryz.ntmps34
    go_wp2_with (go_at_call 69; refine (impl_within _ _ _ _).mono ?_; rintro e w1 ⟨rfl, hb1⟩; obtain ⟨hc1, hf1⟩ := bcell hb1; have hz1 := hb1.size)
    go_ret
    exact ⟨ret_bool (by simp [isV, h1]), mC⟩
  · go_enter Tryz.func34, Tryz.ntmps34
    go_wp2_with (go_at_call 69; refine (impl_within _ _ _ _).mono ?_; rintro e w1 ⟨rfl, hb1⟩; obtain ⟨hc1, hf1⟩ := bcell hb1; have hz1 := hb1.size)
    go_ret
    exact ⟨ret_bool (by simp [isV, h1]), mC⟩

theorem infoVec : (Tryz.prog.info? 37).map (fun i => (i.zero, i.size, i.bytes)) = some (some (.agg #[.int .i64 0, .int .i64 0]), 2, 16) := by kernel_rfl
end Go.Proofs.YtnbefpfijaimjaaGreatDoor
/- Contracts of the laws' helpers on slices of vectors: size, copy, comparison, marks. -/
namespace Go.Proofs.YtnbefpfijaimjaaGreatDoor
open Go.RowKit

def szI (n : Nat) (left : Int) : Int := if (n : Int) ≤ left then left - n else -1
theorem szI_pos {n : Nat} {left : Int} (h : (n : Int) ≤ left) : szI n left = left - n := if_pos h
theorem szI_neg {n : Nat} {left : Int} (h : ¬ (n : Int) ≤ left) : szI n left = -1 := if_neg h

end Go.Proofs.YtnbefpfijaimjaaGreatDoor
/- Contracts of the generated functions on []int: eqIntS, markIntS, heldIntS. -/
namespace Go.Proofs.YtnbefpfijaimjaaGreatDoor
open Go.RowKit
set_option maxHeartbeats 800000 in
theorem laws_eqIntS (v v' : Value) (l : List Int) (w : World) (hv : tInts.at w [v] l) (hv' : tInts.at w [v'] l) (hl : l.length ≤ 4611686018427387904) :
    Calls Tryz.prog 49 #[v, v'] w fun e w' => e = .returned (.bool true) ∧ More w w' := by
  obtain ⟨ao, cap, rfl⟩ := sl_len hv
  obtain ⟨ao', cap', rfl⟩ := sl_len hv'
  have HV := Lib.hid hv; clear hv
  have HV' := Lib.hid hv'; clear hv'
  obtain ⟨n, hn⟩ : ∃ n, n = l.length := ⟨_, rfl⟩
  rw [← hn] at HV HV' hl ⊢
  have HN := Lib.hid hn; clear hn
  go_enter Tryz.func49, Tryz.ntmps49
  go_wp2_with fail
  go_loopw [5] (fun i wr => ∃ k : Nat, k ≤ n ∧ i = .int .i64 k ∧ More w wr) (fun i _ => n - (intOf i).toNat)
  case atStart => exact ⟨0, Nat.zero_le _, rfl, More.refl _⟩
  case round =>
    obtain ⟨k, hk, rfl, hm⟩ := hrel
    by_cases hlt : k < n
    · obtain ⟨b, off, x, rfl, hblt, hx, -, c0⟩ := int_el (Ty.at_more HV.out hm) (k := k) (by rw [← HN.out]; exact hlt)
      obtain ⟨b', off', x', rfl, hblt', hx', -, d0⟩ := int_el (Ty.at_more HV'.out hm) (k := k) (by rw [← HN.out]; exact hlt)
      rw [hx] at hx'
      cases hx'
      clear hx
      have C0 : ∀ w', More wr w' → w'.cell? ⟨b, off + k, none⟩ = some (.int .i64 x) := fun w' h => ((bcell h).1 _ _ hblt).trans c0
      have D0 : ∀ w', More wr w' → w'.cell? ⟨b', off' + k, none⟩ = some (.int .i64 x) := fun w' h => ((bcell h).1 _ _ hblt').trans d0
      go_wp2_with fail
      go_region_held3 (fun w' => More wr w') (first | exact More.refl _ | exact mC) (fail)
      go_wp2_with fail
      go_roundw
      case rel => exact ⟨k + 1, by omega, by go_num, mC⟩
      case measure => simp [intOf]; omega
    · go_wp2_with fail
      go_ret
      exact ⟨rfl, hm⟩
set_option maxHeartbeats 800000 in
theorem laws_heldIntS (v : Value) (n : Nat) (q : Int) (w : World) (hv : tInts.at w [v] (mk1 n q)) (h0 : 0 ≤ q) (h1 : q ≤ 1000000000) (hl : n ≤ 1048576) :
    Calls Tryz.prog 53 #[v, .int .i64 q] w fun e w' => e = .returned (.int .i64 (q + n)) ∧ More w w' := by
  obtain ⟨ao, cap, rfl⟩ := sl_len hv
  rw [mk1_len] at hv ⊢
  have HV := Lib.hid hv; clear hv
  go_enter Tryz.func53, Tryz.ntmps53
  go_wp2_with fail
  go_loopw [1, 5] (fun c i wr => ∃ k : Nat, k ≤ n ∧ i = .int .i64 k ∧ c = .int .i64 (q + k) ∧ More w wr) (fun _ i _ => n - (intOf i).toNat)
  case atStart => exact ⟨0, Nat.zero_le _, rfl, by simp, More.refl _⟩
  case round =>
    obtain ⟨k, hk, rfl, rfl, hm⟩ := hrel
    by_cases hlt : k < n
    · obtain ⟨b, off, x, rfl, hblt, hx, -, c0⟩ := int_el (Ty.at_more HV.out hm) (k := k) (by rw [mk1_len]; exact hlt)
      rw [mk1_get hlt] at hx
      cases hx
      go_wp2_with fail
      go_roundw
      case rel => exact ⟨k + 1, by omega, by go_num, by congr 1; omega, mC⟩
      case measure => simp [intOf]; omega
    · go_wp2_with fail
      go_ret
      obtain rfl : k = n := by omega
      exact ⟨rfl, hm⟩
set_option maxHeartbeats 800000 in
theorem laws_markIntS (bs : List Nat) (v : Value) (l : List Int) (q : Int) (w : World) (hv : tInts.own bs w [v] l) (h0 : 0 ≤ q) (h1 : q ≤ 1000000000) (hl : l.length ≤ 1048576) :
    Calls Tryz.prog 51 #[v, .int .i64 q] w fun e w' => e = .returned (.int .i64 (q + l.length)) ∧ Turns bs w w' ∧ tInts.own bs w' [v] (mk1 l.length q) := by
  rcases own_row fInt hv with rfl | ⟨g, cap, et, xs, rfl, rfl, hrow, hpos⟩
  · obtain ⟨ao, cap, rfl⟩ := sl_len (Ty.rd_at (tInts.own_rd hv))
    have HV := Lib.hid hv; clear hv
    go_enter Tryz.func51, Tryz.ntmps51
    go_wp2_with fail
    refine wp_loop_rounds 1 ?_
    rw [rounds_succ]
    go_wp2
    go_ret
    exact ⟨ret_int (by simp), Turns.refl _ _, HV.out⟩
  · clear hv
    obtain ⟨n, hn⟩ : ∃ n, n = l.length := ⟨_, rfl⟩
    rw [← hn] at hrow hl hpos ⊢
    clear hn
    have HR : Hid (RowK tInt g et w g n cap (mk1 n q) 0) := Lib.hid (RowK.start hrow)
    clear hrow
    go_enter Tryz.func51, Tryz.ntmps51
    go_wp2_with fail
    go_loopw [1, 5] (fun c i wr => ∃ k : Nat, k ≤ n ∧ i = .int .i64 k ∧ c = .int .i64 (q + k) ∧ Hid (Turns [g] w wr) ∧ Hid (RowK tInt g et wr g n cap (mk1 n q) k)) (fun _ i _ => n - (intOf i).toNat)
    case atStart => exact ⟨0, Nat.zero_le _, rfl, by simp, Lib.hid (Turns.refl _ _), HR⟩
    case round =>
      obtain ⟨k, hk, rfl, rfl, HT, HK⟩ := hrel
      clear HR
      by_cases hlt : k < n
      · obtain ⟨⟨u0, q0⟩, f0⟩ := HK.out.cells k (by show _ < n * 1; omega)
        go_wp2_with fail
        go_roundw
        case rel => exact ⟨k + 1, by omega, by go_num, by congr 1; omega, Lib.hid (HT.out.setCell (.inl (by simp)) _), Lib.hid (by have h := RowK.step HK.out (More.refl _) hlt (mk1_get hlt) (int_fresh (In64.small (by omega))); rw [show k * tInt.size = k from Nat.mul_one k] at h; exact h)⟩
        case measure => simp [intOf]; omega
      · go_wp2_with fail
        go_ret
        obtain rfl : k = n := by omega
        exact ⟨rfl, HT.out, HK.out.own_flat fInt (mk1_len _ _).symm (by rw [mk1_len]; omega)⟩
end Go.Proofs.YtnbefpfijaimjaaGreatDoor
