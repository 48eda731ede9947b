/- Contracts of the laws' helpers on slices of vectors: size, copy, comparison, marks. -/
import Derived.Test.YtejhibpaknjhnaaVec
import Derived.Deep.RegionHeld3
namespace Go.Proofs.Ytejhibpaknjhnaa
open Go.RowKit

def szI (n : Nat) (left : Int) : Int := if (n : Int) ≤ left then left - n else -1
theorem szI_pos {n : Nat} {left : Int} (h : (n : Int) ≤ left) : szI n left = left - n := if_pos h
theorem szI_neg {n : Nat} {left : Int} (h : ¬ (n : Int) ≤ left) : szI n left = -1 := if_neg h

set_option maxHeartbeats 400000 in
theorem laws_szVecS (v : Value) (l : List QV) (left : Int) (w : World) (hv : tVecs.at w [v] l) (h0 : 0 ≤ left) (h1 : left ≤ 1048576) :
    Calls Try.prog 18 #[v, .int .i64 left] w fun e w' => e = .returned (.int .i64 (szI l.length left)) ∧ More w w' := by
  obtain ⟨ao, cap, rfl, hl⟩ := sl_len63 hv
  clear hv
  obtain ⟨n, hn⟩ : ∃ n, n = l.length := ⟨_, rfl⟩
  rw [← hn] at hl ⊢
  clear hn
  by_cases h : (n : Int) ≤ left
  · go_enter Try.func18, Try.ntmps18
    go_wp2
    go_ret
    exact ⟨ret_int (szI_pos h).symm, More.refl _⟩
  · go_enter Try.func18, Try.ntmps18
    go_wp2
    go_ret
    exact ⟨ret_int (szI_neg (by omega)).symm, More.refl _⟩
set_option maxHeartbeats 800000 in
theorem laws_toVecS (v : Value) (l : List QV) (w : World) (hv : tVecs.at w [v] l) (hl : l.length ≤ 1048576) :
    Calls Try.prog 20 #[v] w fun e w' => ∃ v', e = .returned v' ∧ More w w' ∧ tVecs.fresh w.heap.size w' [v'] l := by
  obtain ⟨ao, cap, rfl⟩ := sl_len hv
  have HV := Lib.hid hv; clear hv
  obtain ⟨n, hn⟩ : ∃ n, n = l.length := ⟨_, rfl⟩
  rw [← hn] at HV hl ⊢
  have HN := Lib.hid hn; clear hn
  obtain ⟨i0, hi, hz0, hz1, hz2⟩ := info_parts infoVec
  go_enter Try.func20, Try.ntmps20
  go_wp2_with (at_make; refine wpList_make_full _ rfl _ _ 25 rfl w.heap.size 30 i0 (.agg #[.int .i64 0, .int .i64 0]) 2 Try.underlying25 hi hz0 hz1 _ _ _ _ n rfl rfl rfl rfl ?c1 ?c2 ?c3 ?_)
  case c1 => rw [hz2]; omega
  case c2 => unfold maxLen; omega
  case c3 => exact Nat.le_refl _
  intro w1 hown hgr
  have hb1 : More w w1 := Turns.more ((Turns.refl _ _).grown hgr (by simp))
  have HR : Hid (RowK tVec w.heap.size 30 w1 w.heap.size n n l 0) := Lib.hid (RowK.start hown)
  clear hown hgr
  go_wp2_with fail
  go_loopw [4] (fun i wr => ∃ k : Nat, k ≤ n ∧ i = .int .i64 k ∧ More w wr ∧ Hid (RowK tVec w.heap.size 30 wr w.heap.size n n l k)) (fun i _ => n - (intOf i).toNat)
  case atStart => exact ⟨0, Nat.zero_le _, rfl, hb1, HR⟩
  case round =>
    obtain ⟨k, hk, rfl, hm, HK⟩ := hrel
    clear HR hb1
    by_cases hlt : k < n
    · obtain ⟨b, off, x, y, rfl, hblt, hx, ox, oy, c0, c1⟩ := vec_el (Ty.at_more HV.out hm) (k := k) (by rw [← HN.out]; exact hlt)
      have HX := Lib.hid hx; clear hx
      go_wp2_with (go_at_call 105; refine (laws_toVec _ _ _).mono ?_; rintro e w2 ⟨rfl, hb2⟩; have HK2 := RowK.more HK.out hb2; obtain ⟨⟨u0, q0⟩, f0⟩ := HK2.cells (k * 2) (by show _ < n * 2; omega); obtain ⟨⟨u1, q1⟩, f1⟩ := HK2.cells (k * 2 + 1) (by show _ < n * 2; omega); have HKK := Lib.hid HK2; clear HK2)
      go_roundw
      case rel => exact ⟨k + 1, by omega, by go_num, Turns.more ((Turns.via hb2 (hm.turns [])).setCell (.inr (Nat.le_refl _)) _ |>.setCell (.inr (Nat.le_refl _)) _), Lib.hid (RowK.step HK.out hb2 hlt HX.out (vec_fresh ox oy))⟩
      case measure => simp [intOf]; omega
    · go_wp2_with fail
      go_ret
      obtain rfl : k = n := by omega
      exact ⟨_, rfl, hm, HK.out.fresh HN.out⟩
set_option maxHeartbeats 800000 in
theorem laws_eqVecS (v v' : Value) (l : List QV) (w : World) (hv : tVecs.at w [v] l) (hv' : tVecs.at w [v'] l) (hl : l.length ≤ 4611686018427387904) :
    Calls Try.prog 22 #[v, v'] w fun e w' => e = .returned (.bool true) ∧ More w w' := by
  obtain ⟨ao, cap, rfl⟩ := sl_len hv
  obtain ⟨ao', cap', rfl⟩ := sl_len hv'
  have HV := Lib.hid hv; clear hv
  have HV' := Lib.hid hv'; clear hv'
  obtain ⟨n, hn⟩ : ∃ n, n = l.length := ⟨_, rfl⟩
  rw [← hn] at HV HV' hl ⊢
  have HN := Lib.hid hn; clear hn
  go_enter Try.func22, Try.ntmps22
  go_wp2_with fail
  go_loopw [5] (fun i wr => ∃ k : Nat, k ≤ n ∧ i = .int .i64 k ∧ More w wr) (fun i _ => n - (intOf i).toNat)
  case atStart => exact ⟨0, Nat.zero_le _, rfl, More.refl _⟩
  case round =>
    obtain ⟨k, hk, rfl, hm⟩ := hrel
    by_cases hlt : k < n
    · obtain ⟨b, off, x, y, rfl, hblt, hx, -, -, c0, c1⟩ := vec_el (Ty.at_more HV.out hm) (k := k) (by rw [← HN.out]; exact hlt)
      obtain ⟨b', off', x', y', rfl, hblt', hx', -, -, d0, d1⟩ := vec_el (Ty.at_more HV'.out hm) (k := k) (by rw [← HN.out]; exact hlt)
      rw [hx] at hx'
      cases hx'
      clear hx
      have C0 : ∀ w', More wr w' → w'.cell? ⟨b, off + k * 2, none⟩ = some (.int .i64 x) := fun w' h => ((bcell h).1 _ _ hblt).trans c0
      have C1 : ∀ w', More wr w' → w'.cell? ⟨b, off + k * 2 + 1, none⟩ = some (.int .i64 y) := fun w' h => ((bcell h).1 _ _ hblt).trans c1
      have D0 : ∀ w', More wr w' → w'.cell? ⟨b', off' + k * 2, none⟩ = some (.int .i64 x) := fun w' h => ((bcell h).1 _ _ hblt').trans d0
      have D1 : ∀ w', More wr w' → w'.cell? ⟨b', off' + k * 2 + 1, none⟩ = some (.int .i64 y) := fun w' h => ((bcell h).1 _ _ hblt').trans d1
      go_wp2_with fail
      go_region_held3 (fun w' => More wr w') (first | exact More.refl _ | exact (Turns.more (by repeat (first | (with_reducible exact Turns.refl _ _) | (with_reducible apply Turns.drew) | (with_reducible apply Turns.drewN) | (with_reducible apply Turns.alloc) | (with_reducible refine Turns.via (by assumption) ?_))))) (first | (go_at_call 27; refine (laws_eqVec _ _ _).mono ?_; rintro e w1 ⟨rfl, hb1⟩))
      go_wp2_with fail
      go_roundw
      case rel => exact ⟨k + 1, by omega, by go_num, (Turns.more (by repeat (first | (with_reducible exact Turns.refl _ _) | (with_reducible apply Turns.drew) | (with_reducible apply Turns.drewN) | (with_reducible apply Turns.alloc) | (with_reducible refine Turns.via (by assumption) ?_))))⟩
      case measure => simp [intOf]; omega
    · go_wp2_with fail
      go_ret
      exact ⟨rfl, hm⟩
set_option maxHeartbeats 800000 in
theorem laws_markVecS (bs : List Nat) (v : Value) (l : List QV) (q : Int) (w : World) (hv : tVecs.own bs w [v] l) (h0 : 0 ≤ q) (h1 : q ≤ 1000000000) (hl : l.length ≤ 1048576) :
    Calls Try.prog 30 #[v, .int .i64 q] w fun e w' => e = .returned (.int .i64 (q + 2 * l.length)) ∧ Turns bs w w' ∧ tVecs.own bs w' [v] (mk2 l.length q) := by
  rcases own_row fVec hv with rfl | ⟨g, cap, et, xs, rfl, rfl, hrow, hpos⟩
  · obtain ⟨ao, cap, rfl⟩ := sl_len (Ty.rd_at (tVecs.own_rd hv))
    have HV := Lib.hid hv; clear hv
    go_enter Try.func30, Try.ntmps30
    go_wp2_with fail
    refine wp_loop_rounds 1 ?_
    rw [rounds_succ]
    go_wp2
    go_ret
    exact ⟨ret_int (by simp), Turns.refl _ _, HV.out⟩
  · clear hv
    obtain ⟨n, hn⟩ : ∃ n, n = l.length := ⟨_, rfl⟩
    rw [← hn] at hrow hl hpos ⊢
    clear hn
    have HR : Hid (RowK tVec g et w g n cap (mk2 n q) 0) := Lib.hid (RowK.start hrow)
    clear hrow
    go_enter Try.func30, Try.ntmps30
    go_wp2_with fail
    go_loopw [1, 5] (fun c i wr => ∃ k : Nat, k ≤ n ∧ i = .int .i64 k ∧ c = .int .i64 (q + 2 * k) ∧ Hid (Turns [g] w wr) ∧ Hid (RowK tVec g et wr g n cap (mk2 n q) k)) (fun _ i _ => n - (intOf i).toNat)
    case atStart => exact ⟨0, Nat.zero_le _, rfl, by simp, Lib.hid (Turns.refl _ _), HR⟩
    case round =>
      obtain ⟨k, hk, rfl, rfl, HT, HK⟩ := hrel
      clear HR
      by_cases hlt : k < n
      · obtain ⟨⟨u0, q0⟩, f0⟩ := HK.out.cells (k * 2) (by show _ < n * 2; omega)
        obtain ⟨⟨u1, q1⟩, f1⟩ := HK.out.cells (k * 2 + 1) (by show _ < n * 2; omega)
        go_wp2_with fail
        go_roundw
        case rel => exact ⟨k + 1, by omega, by go_num, by congr 1; omega, Lib.hid ((HT.out.setCell (.inl (by simp)) _).setCell (.inl (by simp)) _), Lib.hid (RowK.step HK.out (More.refl _) hlt (mk2_get hlt) (vec_fresh (In64.small (by omega)) (In64.small (by omega))))⟩
        case measure => simp [intOf]; omega
      · go_wp2_with fail
        go_ret
        obtain rfl : k = n := by omega
        exact ⟨rfl, HT.out, HK.out.own_flat fVec (mk2_len _ _).symm (by rw [mk2_len]; omega)⟩
set_option maxHeartbeats 800000 in
theorem laws_heldVecS (v : Value) (n : Nat) (q : Int) (w : World) (hv : tVecs.at w [v] (mk2 n q)) (h0 : 0 ≤ q) (h1 : q ≤ 1000000000) (hl : n ≤ 1048576) :
    Calls Try.prog 31 #[v, .int .i64 q] w fun e w' => e = .returned (.int .i64 (q + 2 * n)) ∧ More w w' := by
  obtain ⟨ao, cap, rfl⟩ := sl_len hv
  rw [mk2_len] at hv ⊢
  have HV := Lib.hid hv; clear hv
  go_enter Try.func31, Try.ntmps31
  go_wp2_with fail
  go_loopw [1, 5] (fun c i wr => ∃ k : Nat, k ≤ n ∧ i = .int .i64 k ∧ c = .int .i64 (q + 2 * k) ∧ More w wr) (fun _ i _ => n - (intOf i).toNat)
  case atStart => exact ⟨0, Nat.zero_le _, rfl, by simp, More.refl _⟩
  case round =>
    obtain ⟨k, hk, rfl, rfl, hm⟩ := hrel
    by_cases hlt : k < n
    · obtain ⟨b, off, x, y, rfl, hblt, hx, -, -, c0, c1⟩ := vec_el (Ty.at_more HV.out hm) (k := k) (by rw [mk2_len]; exact hlt)
      rw [mk2_get hlt] at hx
      cases hx
      go_wp2_with fail
      go_roundw
      case rel => exact ⟨k + 1, by omega, by go_num, by congr 1; omega, (Turns.more (by repeat (first | (with_reducible exact Turns.refl _ _) | (with_reducible apply Turns.drew) | (with_reducible apply Turns.drewN) | (with_reducible apply Turns.alloc) | (with_reducible refine Turns.via (by assumption) ?_))))⟩
      case measure => simp [intOf]; omega
    · go_wp2_with fail
      go_ret
      obtain rfl : k = n := by omega
      exact ⟨rfl, hm⟩
end Go.Proofs.Ytejhibpaknjhnaa
