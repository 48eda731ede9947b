/- Several texts laid together; each has its own word at its head. -/
import Derived.Test.YtnndjbomfcacfaaRows
import Derived.Test.YtnndjbomfcacfaaGBase
import Derived.Deep.RegionHeld3
/- Contracts of the small functions on vectors: whether one is valid, copies, comparisons, sizes, marks. -/
namespace Go.Proofs.Ytnndjbomfcacfaa
open Go.RowKit

def inR (n lo hi : Int) : Bool := decide (lo ≤ n ∧ n ≤ hi)
theorem inR_iff {n lo hi : Int} : inR n lo hi = true ↔ lo ≤ n ∧ n ≤ hi := by simp [inR]
theorem inR_not {n lo hi : Int} : inR n lo hi = false ↔ ¬ (lo ≤ n ∧ n ≤ hi) := by unfold inR; exact decide_eq_false_iff_not
def isV (v : QV) : Bool := inR v.1 (-1000) 1000 && inR v.2 (-1000) 1000
theorem isV_iff {v : QV} : isV v = true ↔ (-1000 ≤ v.1 ∧ v.1 ≤ 1000) ∧ (-1000 ≤ v.2 ∧ v.2 ≤ 1000) := by unfold isV; rw [Bool.and_eq_true, inR_iff, inR_iff]

set_option maxHeartbeats 400000 in
theorem impl_within (n lo hi : Int) (w : World) : Calls Try.prog 71 #[.int .i64 n, .int .i64 lo, .int .i64 hi] w fun e w' => e = .returned (.bool (inR n lo hi)) ∧ More w w' := by
  by_cases h1 : lo ≤ n
  · by_cases h2 : n ≤ hi
    · go_enter Try.func71, Try.ntmps71
      go_wp2
      go_ret
      exact ⟨ret_bool (inR_iff.2 ⟨h1, h2⟩).symm, More.refl _⟩
    · go_enter Try.func71, Try.ntmps71
      go_wp2
      go_ret
      exact ⟨ret_bool (inR_not.2 (by omega)).symm, More.refl _⟩
  · go_enter Try.func71, Try.ntmps71
    go_wp2
    go_ret
    exact ⟨ret_bool (inR_not.2 (by omega)).symm, More.refl _⟩
set_option maxHeartbeats 400000 in
theorem spec_l01In (n lo hi : Int) (w : World) : Calls Try.prog 67 #[.int .i64 n, .int .i64 lo, .int .i64 hi] w fun e w' => e = .returned (.bool (inR n lo hi)) ∧ More w w' := by
  by_cases h1 : lo ≤ n
  · by_cases h2 : n ≤ hi
    · go_enter Try.func67, Try.ntmps67
      go_wp2
      go_ret
      exact ⟨ret_bool (inR_iff.2 ⟨h1, h2⟩).symm, More.refl _⟩
    · go_enter Try.func67, Try.ntmps67
      go_wp2
      go_ret
      exact ⟨ret_bool (inR_not.2 (by omega)).symm, More.refl _⟩
  · go_enter Try.func67, Try.ntmps67
    go_wp2
    go_ret
    exact ⟨ret_bool (inR_not.2 (by omega)).symm, More.refl _⟩
set_option maxHeartbeats 400000 in
theorem impl_isVec (x y : Int) (w : World) : Calls Try.prog 80 #[.agg #[.int .i64 x, .int .i64 y]] w fun e w' => e = .returned (.bool (isV (x, y))) ∧ More w w' := by
  rcases Bool.eq_false_or_eq_true (inR x (-1000) 1000) with h1 | h1
  · go_enter Try.func80, Try.ntmps80
    go_wp2_with (go_at_call 71; refine (impl_within _ _ _ _).mono ?_; rintro e w1 ⟨rfl, hb1⟩; obtain ⟨hc1, hf1⟩ := bcell hb1; have hz1 := hb1.size)
    go_ret
    exact ⟨ret_bool (by simp [isV, h1]), mC⟩
  · go_enter Try.func80, Try.ntmps80
    go_wp2_with (go_at_call 71; refine (impl_within _ _ _ _).mono ?_; rintro e w1 ⟨rfl, hb1⟩; obtain ⟨hc1, hf1⟩ := bcell hb1; have hz1 := hb1.size)
    go_ret
    exact ⟨ret_bool (by simp [isV, h1]), mC⟩
def badV (v : QV) : Bool := !isV v
set_option maxHeartbeats 400000 in
theorem impl_areVecs_1 (x y : Int) (w : World) : Calls Try.prog 79 #[.agg #[.int .i64 x, .int .i64 y]] w fun e w' => e = .returned (.bool (badV (x, y))) ∧ More w w' := by
  go_enter Try.func79, Try.ntmps79
  go_wp2_with (go_at_call 80; refine (impl_isVec _ _ _).mono ?_; rintro e w1 ⟨rfl, hb1⟩)
  go_ret
  exact ⟨rfl, mC⟩

set_option maxHeartbeats 800000 in
theorem indexFunc_areVecs (v : Value) (l : List QV) (w : World) (hv : tVecs.at w [v] l) (hl : l.length ≤ 4611686018427387904) :
    Calls Try.prog 76 #[v, .func (.func 79) #[] #[]] w fun e w' => e = .returned (.int .i64 (idxI badV l)) ∧ More w w' := by
  obtain ⟨ao, cap, rfl⟩ := sl_len hv
  have HV := Lib.hid hv; clear hv
  obtain ⟨n, hn⟩ : ∃ n, n = l.length := ⟨_, rfl⟩
  rw [← hn] at HV hl ⊢
  have HN := Lib.hid hn; clear hn
  go_enter Try.func76, Try.ntmps76
  go_wp2_with fail
  go_loopw [8] (fun i wr => ∃ k : Nat, k ≤ n ∧ i = .int .i64 k ∧ More w wr ∧ Hid (∀ (i : Nat) y, i < k → l[i]? = some y → badV y = false)) (fun i _ => n - (intOf i).toNat)
  case atStart => exact ⟨0, Nat.zero_le _, rfl, More.refl _, Lib.hid (fun i y hi => by omega)⟩
  case round =>
    obtain ⟨k, hk, rfl, hm, HB⟩ := hrel
    by_cases hlt : k < n
    · obtain ⟨b, off, x, y, rfl, hblt, hx, -, -, c0, c1⟩ := vec_el (Ty.at_more HV.out hm) (k := k) (by rw [← HN.out]; exact hlt)
      have HX := Lib.hid hx; clear hx
      rcases Bool.eq_false_or_eq_true (badV (x, y)) with hb | hb
      · go_wp2_with (go_at_call 79; refine (impl_areVecs_1 _ _ _).mono ?_; rintro e w1 ⟨rfl, hb1⟩)
        go_ret
        exact ⟨ret_int (idxI_found HB.out HX.out hb).symm, mC⟩
      · go_wp2_with (go_at_call 79; refine (impl_areVecs_1 _ _ _).mono ?_; rintro e w1 ⟨rfl, hb1⟩)
        go_roundw
        case rel => exact ⟨k + 1, by omega, by go_num, mC, Lib.hid (fun i z hi hz => by
          rcases Nat.lt_succ_iff_lt_or_eq.1 hi with h | rfl
          · exact HB.out i z h hz
          · rw [HX.out] at hz; cases hz; exact hb)⟩
        case measure => simp [intOf]; omega
    · go_wp2_with fail
      go_ret
      exact ⟨ret_int (idxI_none (fun i z hz => HB.out i z (by have := (List.getElem?_eq_some_iff.1 hz).1; have := HN.out; omega) hz)).symm, mC⟩

theorem infoVec : (Try.prog.info? 30).map (fun i => (i.zero, i.size, i.bytes)) = some (some (.agg #[.int .i64 0, .int .i64 0]), 2, 16) := by kernel_rfl
set_option maxHeartbeats 400000 in
theorem containsFunc_areVecs (v : Value) (l : List QV) (w : World) (hv : tVecs.at w [v] l) (hl : l.length ≤ 4611686018427387904) :
    Calls Try.prog 69 #[v, .func (.func 79) #[] #[]] w fun e w' => e = .returned (.bool (l.any badV)) ∧ More w w' := by
  have HV := Lib.hid hv; clear hv
  have HL := Lib.hid hl; clear hl
  go_enter Try.func69, Try.ntmps69
  go_wp2_with (go_at_call 76; refine (indexFunc_areVecs _ l _ HV.out HL.out).mono ?_; rintro e w1 ⟨rfl, hb1⟩)
  go_ret
  exact ⟨ret_bool idxI_nonneg, mC⟩
set_option maxHeartbeats 400000 in
theorem impl_areVecs (v : Value) (l : List QV) (w : World) (hv : tVecs.at w [v] l) (hl : l.length ≤ 4611686018427387904) :
    Calls Try.prog 77 #[v] w fun e w' => e = .returned (.bool (l.all isV)) ∧ More w w' := by
  have HV := Lib.hid hv; clear hv
  have HL := Lib.hid hl; clear hl
  go_enter Try.func77, Try.ntmps77
  go_wp2_with (go_at_call 69; refine (containsFunc_areVecs _ l _ HV.out HL.out).mono ?_; rintro e w1 ⟨rfl, hb1⟩)
  go_ret
  exact ⟨ret_bool (by rw [List.not_any_eq_all_not]; congr 1; funext x; simp [badV]), mC⟩
set_option maxHeartbeats 400000 in
theorem spec_IsValidVec (x y : Int) (w : World) : Calls Try.prog 74 #[.agg #[.int .i64 x, .int .i64 y]] w fun e w' => e = .returned (.bool (isV (x, y))) ∧ More w w' := by
  rcases Bool.eq_false_or_eq_true (inR x (-1000) 1000) with h1 | h1
  · go_enter Try.func74, Try.ntmps74
    go_wp2_with (go_at_call 67; refine (spec_l01In _ _ _ _).mono ?_; rintro e w1 ⟨rfl, hb1⟩; obtain ⟨hc1, hf1⟩ := bcell hb1; have hz1 := hb1.size)
    go_ret
    exact ⟨ret_bool (by simp [isV, h1]), mC⟩
  · go_enter Try.func74, Try.ntmps74
    go_wp2_with (go_at_call 67; refine (spec_l01In _ _ _ _).mono ?_; rintro e w1 ⟨rfl, hb1⟩; obtain ⟨hc1, hf1⟩ := bcell hb1; have hz1 := hb1.size)
    go_ret
    exact ⟨ret_bool (by simp [isV, h1]), mC⟩
set_option maxHeartbeats 400000 in
theorem laws_toVec (x y : Int) (w : World) : Calls Try.prog 30 #[.agg #[.int .i64 x, .int .i64 y]] w fun e w' => e = .returned (.agg #[.int .i64 x, .int .i64 y]) ∧ More w w' := by
  go_enter Try.func30, Try.ntmps30
  go_wp2
  exact bodyPost_ret (v := .agg #[.int .i64 x, .int .i64 y]) (by simp [results, Try.results30, go_sem]) rfl ⟨rfl, mC⟩
set_option maxHeartbeats 400000 in
theorem laws_eqVec (x y : Int) (w : World) : Calls Try.prog 36 #[.agg #[.int .i64 x, .int .i64 y], .agg #[.int .i64 x, .int .i64 y]] w fun e w' => e = .returned (.bool true) ∧ More w w' := by
  go_enter Try.func36, Try.ntmps36
  go_wp2
  go_ret
  exact ⟨rfl, mC⟩
end Go.Proofs.Ytnndjbomfcacfaa
/- Contracts of the laws' helpers on slices of vectors: size, copy, comparison, marks. -/
namespace Go.Proofs.Ytnndjbomfcacfaa
open Go.RowKit

def szI (n : Nat) (left : Int) : Int := if (n : Int) ≤ left then left - n else -1
theorem szI_pos {n : Nat} {left : Int} (h : (n : Int) ≤ left) : szI n left = left - n := if_pos h
theorem szI_neg {n : Nat} {left : Int} (h : ¬ (n : Int) ≤ left) : szI n left = -1 := if_neg h

set_option maxHeartbeats 400000 in
theorem laws_szVecS (v : Value) (l : List QV) (left : Int) (w : World) (hv : tVecs.at w [v] l) (h0 : 0 ≤ left) (h1 : left ≤ 1048576) :
    Calls Try.prog 6 #[v, .int .i64 left] w fun e w' => e = .returned (.int .i64 (szI l.length left)) ∧ More w w' := by
  obtain ⟨ao, cap, rfl, hl⟩ := sl_len63 hv
  clear hv
  obtain ⟨n, hn⟩ : ∃ n, n = l.length := ⟨_, rfl⟩
  rw [← hn] at hl ⊢
  clear hn
  by_cases h : (n : Int) ≤ left
  · go_enter Try.func6, Try.ntmps6
    go_wp2
    go_ret
    exact ⟨ret_int (szI_pos h).symm, More.refl _⟩
  · go_enter Try.func6, Try.ntmps6
    go_wp2
    go_ret
    exact ⟨ret_int (szI_neg (by omega)).symm, More.refl _⟩
set_option maxHeartbeats 800000 in
theorem laws_toVecS (v : Value) (l : List QV) (w : World) (hv : tVecs.at w [v] l) (hl : l.length ≤ 1048576) :
    Calls Try.prog 9 #[v] w fun e w' => ∃ v', e = .returned v' ∧ More w w' ∧ tVecs.fresh w.heap.size w' [v'] l := by
  obtain ⟨ao, cap, rfl⟩ := sl_len hv
  have HV := Lib.hid hv; clear hv
  obtain ⟨n, hn⟩ : ∃ n, n = l.length := ⟨_, rfl⟩
  rw [← hn] at HV hl ⊢
  have HN := Lib.hid hn; clear hn
  obtain ⟨i0, hi, hz0, hz1, hz2⟩ := info_parts infoVec
  go_enter Try.func9, Try.ntmps9
  go_wp2_with (at_make; refine wpList_make_full _ rfl _ _ 31 rfl w.heap.size 30 i0 (.agg #[.int .i64 0, .int .i64 0]) 2 Try.underlying31 hi hz0 hz1 _ _ _ _ n rfl rfl rfl rfl ?c1 ?c2 ?c3 ?_)
  case c1 => rw [hz2]; omega
  case c2 => unfold maxLen; omega
  case c3 => exact Nat.le_refl _
  intro w1 hown hgr
  have hb1 : More w w1 := Turns.more ((Turns.refl _ _).grown hgr (by simp))
  have HR : Hid (RowK tVec w.heap.size 30 w1 w.heap.size n n l 0) := Lib.hid (RowK.start hown)
  clear hown hgr
  go_wp2_with fail
  go_loopw [4] (fun i wr => ∃ k : Nat, k ≤ n ∧ i = .int .i64 k ∧ More w wr ∧ Hid (RowK tVec w.heap.size 30 wr w.heap.size n n l k)) (fun i _ => n - (intOf i).toNat)
  case atStart => exact ⟨0, Nat.zero_le _, rfl, hb1, HR⟩
  case round =>
    obtain ⟨k, hk, rfl, hm, HK⟩ := hrel
    clear HR hb1
    by_cases hlt : k < n
    · obtain ⟨b, off, x, y, rfl, hblt, hx, ox, oy, c0, c1⟩ := vec_el (Ty.at_more HV.out hm) (k := k) (by rw [← HN.out]; exact hlt)
      have HX := Lib.hid hx; clear hx
      go_wp2_with (go_at_call 30; refine (laws_toVec _ _ _).mono ?_; rintro e w2 ⟨rfl, hb2⟩; have HK2 := RowK.more HK.out hb2; obtain ⟨⟨u0, q0⟩, f0⟩ := HK2.cells (k * 2) (by show _ < n * 2; omega); obtain ⟨⟨u1, q1⟩, f1⟩ := HK2.cells (k * 2 + 1) (by show _ < n * 2; omega); have HKK := Lib.hid HK2; clear HK2)
      go_roundw
      case rel => exact ⟨k + 1, by omega, by go_num, Turns.more ((Turns.via hb2 (hm.turns [])).setCell (.inr (Nat.le_refl _)) _ |>.setCell (.inr (Nat.le_refl _)) _), Lib.hid (RowK.step HK.out hb2 hlt HX.out (vec_fresh ox oy))⟩
      case measure => simp [intOf]; omega
    · go_wp2_with fail
      go_ret
      obtain rfl : k = n := by omega
      exact ⟨_, rfl, hm, HK.out.fresh HN.out⟩
set_option maxHeartbeats 800000 in
theorem laws_eqVecS (v v' : Value) (l : List QV) (w : World) (hv : tVecs.at w [v] l) (hv' : tVecs.at w [v'] l) (hl : l.length ≤ 4611686018427387904) :
    Calls Try.prog 12 #[v, v'] w fun e w' => e = .returned (.bool true) ∧ More w w' := by
  obtain ⟨ao, cap, rfl⟩ := sl_len hv
  obtain ⟨ao', cap', rfl⟩ := sl_len hv'
  have HV := Lib.hid hv; clear hv
  have HV' := Lib.hid hv'; clear hv'
  obtain ⟨n, hn⟩ : ∃ n, n = l.length := ⟨_, rfl⟩
  rw [← hn] at HV HV' hl ⊢
  have HN := Lib.hid hn; clear hn
  go_enter Try.func12, Try.ntmps12
  go_wp2_with fail
  go_loopw [5] (fun i wr => ∃ k : Nat, k ≤ n ∧ i = .int .i64 k ∧ More w wr) (fun i _ => n - (intOf i).toNat)
  case atStart => exact ⟨0, Nat.zero_le _, rfl, More.refl _⟩
  case round =>
    obtain ⟨k, hk, rfl, hm⟩ := hrel
    by_cases hlt : k < n
    · obtain ⟨b, off, x, y, rfl, hblt, hx, -, -, c0, c1⟩ := vec_el (Ty.at_more HV.out hm) (k := k) (by rw [← HN.out]; exact hlt)
      obtain ⟨b', off', x', y', rfl, hblt', hx', -, -, d0, d1⟩ := vec_el (Ty.at_more HV'.out hm) (k := k) (by rw [← HN.out]; exact hlt)
      rw [hx] at hx'
      cases hx'
      clear hx
      have C0 : ∀ w', More wr w' → w'.cell? ⟨b, off + k * 2, none⟩ = some (.int .i64 x) := fun w' h => ((bcell h).1 _ _ hblt).trans c0
      have C1 : ∀ w', More wr w' → w'.cell? ⟨b, off + k * 2 + 1, none⟩ = some (.int .i64 y) := fun w' h => ((bcell h).1 _ _ hblt).trans c1
      have D0 : ∀ w', More wr w' → w'.cell? ⟨b', off' + k * 2, none⟩ = some (.int .i64 x) := fun w' h => ((bcell h).1 _ _ hblt').trans d0
      have D1 : ∀ w', More wr w' → w'.cell? ⟨b', off' + k * 2 + 1, none⟩ = some (.int .i64 y) := fun w' h => ((bcell h).1 _ _ hblt').trans d1
      go_wp2_with fail
      go_region_held3 (fun w' => More wr w') (first | exact More.refl _ | exact mC) (first | (go_at_call 36; refine (laws_eqVec _ _ _).mono ?_; rintro e w1 ⟨rfl, hb1⟩))
      go_wp2_with fail
      go_roundw
      case rel => exact ⟨k + 1, by omega, by go_num, mC⟩
      case measure => simp [intOf]; omega
    · go_wp2_with fail
      go_ret
      exact ⟨rfl, hm⟩
set_option maxHeartbeats 800000 in
theorem laws_markVecS (bs : List Nat) (v : Value) (l : List QV) (q : Int) (w : World) (hv : tVecs.own bs w [v] l) (h0 : 0 ≤ q) (h1 : q ≤ 1000000000) (hl : l.length ≤ 1048576) :
    Calls Try.prog 14 #[v, .int .i64 q] w fun e w' => e = .returned (.int .i64 (q + 2 * l.length)) ∧ Turns bs w w' ∧ tVecs.own bs w' [v] (mk2 l.length q) := by
  rcases own_row fVec hv with rfl | ⟨g, cap, et, xs, rfl, rfl, hrow, hpos⟩
  · obtain ⟨ao, cap, rfl⟩ := sl_len (Ty.rd_at (tVecs.own_rd hv))
    have HV := Lib.hid hv; clear hv
    go_enter Try.func14, Try.ntmps14
    go_wp2_with fail
    refine wp_loop_rounds 1 ?_
    rw [rounds_succ]
    go_wp2
    go_ret
    exact ⟨ret_int (by simp), Turns.refl _ _, HV.out⟩
  · clear hv
    obtain ⟨n, hn⟩ : ∃ n, n = l.length := ⟨_, rfl⟩
    rw [← hn] at hrow hl hpos ⊢
    clear hn
    have HR : Hid (RowK tVec g et w g n cap (mk2 n q) 0) := Lib.hid (RowK.start hrow)
    clear hrow
    go_enter Try.func14, Try.ntmps14
    go_wp2_with fail
    go_loopw [1, 5] (fun c i wr => ∃ k : Nat, k ≤ n ∧ i = .int .i64 k ∧ c = .int .i64 (q + 2 * k) ∧ Hid (Turns [g] w wr) ∧ Hid (RowK tVec g et wr g n cap (mk2 n q) k)) (fun _ i _ => n - (intOf i).toNat)
    case atStart => exact ⟨0, Nat.zero_le _, rfl, by simp, Lib.hid (Turns.refl _ _), HR⟩
    case round =>
      obtain ⟨k, hk, rfl, rfl, HT, HK⟩ := hrel
      clear HR
      by_cases hlt : k < n
      · obtain ⟨⟨u0, q0⟩, f0⟩ := HK.out.cells (k * 2) (by show _ < n * 2; omega)
        obtain ⟨⟨u1, q1⟩, f1⟩ := HK.out.cells (k * 2 + 1) (by show _ < n * 2; omega)
        go_wp2_with fail
        go_roundw
        case rel => exact ⟨k + 1, by omega, by go_num, by congr 1; omega, Lib.hid ((HT.out.setCell (.inl (by simp)) _).setCell (.inl (by simp)) _), Lib.hid (RowK.step HK.out (More.refl _) hlt (mk2_get hlt) (vec_fresh (In64.small (by omega)) (In64.small (by omega))))⟩
        case measure => simp [intOf]; omega
      · go_wp2_with fail
        go_ret
        obtain rfl : k = n := by omega
        exact ⟨rfl, HT.out, HK.out.own_flat fVec (mk2_len _ _).symm (by rw [mk2_len]; omega)⟩
set_option maxHeartbeats 800000 in
theorem laws_heldVecS (v : Value) (n : Nat) (q : Int) (w : World) (hv : tVecs.at w [v] (mk2 n q)) (h0 : 0 ≤ q) (h1 : q ≤ 1000000000) (hl : n ≤ 1048576) :
    Calls Try.prog 39 #[v, .int .i64 q] w fun e w' => e = .returned (.int .i64 (q + 2 * n)) ∧ More w w' := by
  obtain ⟨ao, cap, rfl⟩ := sl_len hv
  rw [mk2_len] at hv ⊢
  have HV := Lib.hid hv; clear hv
  go_enter Try.func39, Try.ntmps39
  go_wp2_with fail
  go_loopw [1, 5] (fun c i wr => ∃ k : Nat, k ≤ n ∧ i = .int .i64 k ∧ c = .int .i64 (q + 2 * k) ∧ More w wr) (fun _ i _ => n - (intOf i).toNat)
  case atStart => exact ⟨0, Nat.zero_le _, rfl, by simp, More.refl _⟩
  case round =>
    obtain ⟨k, hk, rfl, rfl, hm⟩ := hrel
    by_cases hlt : k < n
    · obtain ⟨b, off, x, y, rfl, hblt, hx, -, -, c0, c1⟩ := vec_el (Ty.at_more HV.out hm) (k := k) (by rw [mk2_len]; exact hlt)
      rw [mk2_get hlt] at hx
      cases hx
      go_wp2_with fail
      go_roundw
      case rel => exact ⟨k + 1, by omega, by go_num, by congr 1; omega, mC⟩
      case measure => simp [intOf]; omega
    · go_wp2_with fail
      go_ret
      obtain rfl : k = n := by omega
      exact ⟨rfl, hm⟩
end Go.Proofs.Ytnndjbomfcacfaa
/- Contracts of the generated functions on []int: eqIntS, markIntS, heldIntS. -/
namespace Go.Proofs.Ytnndjbomfcacfaa
open Go.RowKit
set_option maxHeartbeats 800000 in
theorem laws_eqIntS (v v' : Value) (l : List Int) (w : World) (hv : tInts.at w [v] l) (hv' : tInts.at w [v'] l) (hl : l.length ≤ 4611686018427387904) :
    Calls Try.prog 50 #[v, v'] w fun e w' => e = .returned (.bool true) ∧ More w w' := by
  obtain ⟨ao, cap, rfl⟩ := sl_len hv
  obtain ⟨ao', cap', rfl⟩ := sl_len hv'
  have HV := Lib.hid hv; clear hv
  have HV' := Lib.hid hv'; clear hv'
  obtain ⟨n, hn⟩ : ∃ n, n = l.length := ⟨_, rfl⟩
  rw [← hn] at HV HV' hl ⊢
  have HN := Lib.hid hn; clear hn
  go_enter Try.func50, Try.ntmps50
  go_wp2_with fail
  go_loopw [5] (fun i wr => ∃ k : Nat, k ≤ n ∧ i = .int .i64 k ∧ More w wr) (fun i _ => n - (intOf i).toNat)
  case atStart => exact ⟨0, Nat.zero_le _, rfl, More.refl _⟩
  case round =>
    obtain ⟨k, hk, rfl, hm⟩ := hrel
    by_cases hlt : k < n
    · obtain ⟨b, off, x, rfl, hblt, hx, -, c0⟩ := int_el (Ty.at_more HV.out hm) (k := k) (by rw [← HN.out]; exact hlt)
      obtain ⟨b', off', x', rfl, hblt', hx', -, d0⟩ := int_el (Ty.at_more HV'.out hm) (k := k) (by rw [← HN.out]; exact hlt)
      rw [hx] at hx'
      cases hx'
      clear hx
      have C0 : ∀ w', More wr w' → w'.cell? ⟨b, off + k, none⟩ = some (.int .i64 x) := fun w' h => ((bcell h).1 _ _ hblt).trans c0
      have D0 : ∀ w', More wr w' → w'.cell? ⟨b', off' + k, none⟩ = some (.int .i64 x) := fun w' h => ((bcell h).1 _ _ hblt').trans d0
      go_wp2_with fail
      go_region_held3 (fun w' => More wr w') (first | exact More.refl _ | exact mC) (fail)
      go_wp2_with fail
      go_roundw
      case rel => exact ⟨k + 1, by omega, by go_num, mC⟩
      case measure => simp [intOf]; omega
    · go_wp2_with fail
      go_ret
      exact ⟨rfl, hm⟩
set_option maxHeartbeats 800000 in
theorem laws_heldIntS (v : Value) (n : Nat) (q : Int) (w : World) (hv : tInts.at w [v] (mk1 n q)) (h0 : 0 ≤ q) (h1 : q ≤ 1000000000) (hl : n ≤ 1048576) :
    Calls Try.prog 54 #[v, .int .i64 q] w fun e w' => e = .returned (.int .i64 (q + n)) ∧ More w w' := by
  obtain ⟨ao, cap, rfl⟩ := sl_len hv
  rw [mk1_len] at hv ⊢
  have HV := Lib.hid hv; clear hv
  go_enter Try.func54, Try.ntmps54
  go_wp2_with fail
  go_loopw [1, 5] (fun c i wr => ∃ k : Nat, k ≤ n ∧ i = .int .i64 k ∧ c = .int .i64 (q + k) ∧ More w wr) (fun _ i _ => n - (intOf i).toNat)
  case atStart => exact ⟨0, Nat.zero_le _, rfl, by simp, More.refl _⟩
  case round =>
    obtain ⟨k, hk, rfl, rfl, hm⟩ := hrel
    by_cases hlt : k < n
    · obtain ⟨b, off, x, rfl, hblt, hx, -, c0⟩ := int_el (Ty.at_more HV.out hm) (k := k) (by rw [mk1_len]; exact hlt)
      rw [mk1_get hlt] at hx
      cases hx
      go_wp2_with fail
      go_roundw
      case rel => exact ⟨k + 1, by omega, by go_num, by congr 1; omega, mC⟩
      case measure => simp [intOf]; omega
    · go_wp2_with fail
      go_ret
      obtain rfl : k = n := by omega
      exact ⟨rfl, hm⟩
set_option maxHeartbeats 800000 in
theorem laws_markIntS (bs : List Nat) (v : Value) (l : List Int) (q : Int) (w : World) (hv : tInts.own bs w [v] l) (h0 : 0 ≤ q) (h1 : q ≤ 1000000000) (hl : l.length ≤ 1048576) :
    Calls Try.prog 52 #[v, .int .i64 q] w fun e w' => e = .returned (.int .i64 (q + l.length)) ∧ Turns bs w w' ∧ tInts.own bs w' [v] (mk1 l.length q) := by
  rcases own_row fInt hv with rfl | ⟨g, cap, et, xs, rfl, rfl, hrow, hpos⟩
  · obtain ⟨ao, cap, rfl⟩ := sl_len (Ty.rd_at (tInts.own_rd hv))
    have HV := Lib.hid hv; clear hv
    go_enter Try.func52, Try.ntmps52
    go_wp2_with fail
    refine wp_loop_rounds 1 ?_
    rw [rounds_succ]
    go_wp2
    go_ret
    exact ⟨ret_int (by simp), Turns.refl _ _, HV.out⟩
  · clear hv
    obtain ⟨n, hn⟩ : ∃ n, n = l.length := ⟨_, rfl⟩
    rw [← hn] at hrow hl hpos ⊢
    clear hn
    have HR : Hid (RowK tInt g et w g n cap (mk1 n q) 0) := Lib.hid (RowK.start hrow)
    clear hrow
    go_enter Try.func52, Try.ntmps52
    go_wp2_with fail
    go_loopw [1, 5] (fun c i wr => ∃ k : Nat, k ≤ n ∧ i = .int .i64 k ∧ c = .int .i64 (q + k) ∧ Hid (Turns [g] w wr) ∧ Hid (RowK tInt g et wr g n cap (mk1 n q) k)) (fun _ i _ => n - (intOf i).toNat)
    case atStart => exact ⟨0, Nat.zero_le _, rfl, by simp, Lib.hid (Turns.refl _ _), HR⟩
    case round =>
      obtain ⟨k, hk, rfl, rfl, HT, HK⟩ := hrel
      clear HR
      by_cases hlt : k < n
      · obtain ⟨⟨u0, q0⟩, f0⟩ := HK.out.cells k (by show _ < n * 1; omega)
        go_wp2_with fail
        go_roundw
        case rel => exact ⟨k + 1, by omega, by go_num, by congr 1; omega, Lib.hid (HT.out.setCell (.inl (by simp)) _), Lib.hid (by have h := RowK.step HK.out (More.refl _) hlt (mk1_get hlt) (int_fresh (In64.small (by omega))); rw [show k * tInt.size = k from Nat.mul_one k] at h; exact h)⟩
        case measure => simp [intOf]; omega
      · go_wp2_with fail
        go_ret
        obtain rfl : k = n := by omega
        exact ⟨rfl, HT.out, HK.out.own_flat fInt (mk1_len _ _).symm (by rw [mk1_len]; omega)⟩
end Go.Proofs.Ytnndjbomfcacfaa
