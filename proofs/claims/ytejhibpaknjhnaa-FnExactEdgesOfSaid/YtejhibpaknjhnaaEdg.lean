/- EdgesOf: the reference's and the program's. -/
import Derived.Test.YtejhibpaknjhnaaEdgP
import Derived.Test.YtejhibpaknjhnaaApp
import Derived.Deep.RegionHeld3
namespace Go.Proofs.Ytejhibpaknjhnaa
open Go.RowKit
theorem infoEdge_ : (Try.prog.info? 179).map (fun i => (i.zero, i.size, i.bytes)) = some (some (.agg #[.int .i64 0, .int .i64 0, .int .i64 0, .int .i64 0, .int .i64 0, .bool false]), 6, 48) := by kernel_rfl
theorem fEdge_ok {a b : QV} {k : Int} {c : Bool} (h1 : In64 a.1) (h2 : In64 a.2) (h3 : In64 b.1) (h4 : In64 b.2) (h5 : In64 k) : fEdge.ok (a, b, k, c) := ⟨⟨h1, h2⟩, ⟨h3, h4⟩, h5, trivial⟩
theorem getD_of_ {α : Type} {l : List α} {k : Nat} {x d : α} (h : l[k]? = some x) : l.getD k d = x := by rw [List.getD_eq_getElem?_getD, h]; rfl
set_option maxRecDepth 4000 in
set_option maxHeartbeats 3200000 in
theorem spec_l12Edges (v : Value) (l : List QV) (k0 : Int) (w : World) (hk0 : In64 k0) (hv : tVecs.at w [v] l) (hl : l.length ≤ 1048576) :
    Calls Try.prog 134 #[v, .int .i64 k0] w fun e w' => ∃ v', e = .returned v' ∧ More w w' ∧ tEdgeS.fresh w.heap.size w' [v'] (edgK l k0 l.length) := by
  obtain ⟨ao, cap, rfl⟩ := sl_len hv
  have HV := Lib.hid hv; clear hv
  have HK0 := Lib.hid hk0; clear hk0
  obtain ⟨n, hn⟩ : ∃ n, n = l.length := ⟨_, rfl⟩
  rw [← hn] at HV hl ⊢
  have HN := Lib.hid hn; clear hn
  obtain ⟨i0, hi, hz0, hz1, hz2⟩ := info_parts infoEdge_
  go_enter Try.func134, Try.ntmps134
  go_wp2_with fail
  go_loopw [5, 12] (fun v i wr => ∃ k : Nat, k ≤ n ∧ i = .int .i64 k ∧ More w wr ∧ Hid (FlatOwn fEdge w.heap.size 179 wr v (edgK l k0 k))) (fun _ i _ => n - (intOf i).toNat)
  case atStart => exact ⟨0, Nat.zero_le _, rfl, (Turns.more (by repeat (first | (with_reducible exact Turns.refl _ _) | (with_reducible apply Turns.drew) | (with_reducible apply Turns.drewN) | (with_reducible apply Turns.alloc) | (with_reducible refine Turns.via (by assumption) ?_)))), Lib.hid (FlatOwn.lit (Nat.le_refl _))⟩
  case round =>
    obtain ⟨k, hk, rfl, hm, HL⟩ := hrel
    by_cases hlt : k < n
    · obtain ⟨b, off, x, y, rfl, hblt, hx, ox, oy, c0, c1⟩ := vec_el (Ty.at_more HV.out hm) (k := k) (by rw [← HN.out]; exact hlt)
      obtain ⟨m, em⟩ : ∃ m, m = (k + 1) % n := ⟨_, rfl⟩
      have hmn : m < n := by rw [em]; exact Nat.mod_lt _ (by omega)
      obtain ⟨b2, off2, x2, y2, hadr, -, hx2, ox2, oy2, c2, c3⟩ := vec_el (Ty.at_more HV.out hm) (k := m) (by rw [← HN.out]; exact hmn)
      simp only [Option.some.injEq, Addr.mk.injEq] at hadr
      obtain ⟨rfl, rfl, -⟩ := hadr
      have EM : Hid ((k + 1) % l.length = m) := Lib.hid (by rw [← HN.out]; exact em.symm)
      have emi : ((k : Int) + 1) % (n : Int) = (m : Int) := by rw [em]; simp
      have hi0 : (0 : Int) ≤ (m : Int) := by omega
      have hi1 : (m : Int) < (n : Int) := by omega
      have hwk : IntKind.i64.wrap ((k : Int) + 1) = (k : Int) + 1 := IntWalk.i64_in _ (by omega)
      have hwz : (0 : Int) ≤ (k : Int) + 1 := by omega
      have hmt : ((k : Int) + 1).tmod (n : Int) = (m : Int) := by rw [Int.tmod_eq_emod_of_nonneg (by omega)]; exact emi
      have hmz : ((n : Int) == 0) = false := by simp; omega
      clear em emi
      have HX := Lib.hid hx; have HX2 := Lib.hid hx2; clear hx hx2
      have OX := Lib.hid ox; have OY := Lib.hid oy; have OX2 := Lib.hid ox2; have OY2 := Lib.hid oy2; clear ox oy ox2 oy2
      have HLen : Hid ((edgK l k0 k).length ≤ 2097152) := Lib.hid (by have := edgK_len l k0 k; omega)
      by_cases h1 : x < x2
      · go_wp2_with (at_builtin; refine wpList_pushFlatT fEdge wr rfl _ _ 71 rfl w.heap.size 179 i0 (.agg #[.int .i64 0, .int .i64 0, .int .i64 0, .int .i64 0, .int .i64 0, .bool false]) 48 Try.underlying71 hi hz0 hz1 hz2 rfl (by decide) rfl HL.out (Turns.more (by repeat (first | (with_reducible exact Turns.refl _ _) | (with_reducible apply Turns.drew) | (with_reducible apply Turns.drewN) | (with_reducible apply Turns.alloc) | (with_reducible refine Turns.via (by assumption) ?_)))) rfl (by simp) (y := ((x, y), (x2, y2), k0, true)) rfl (fEdge_ok OX.out OY.out OX2.out OY2.out HK0.out) HLen (by decide) (Lib.hid hm.size) ?_)
        intro v' w2 hl2 hmw hcl
        have z0 := hcl wr.heap.size 0 (.int .i64 x) (Nat.le_refl _) (by omega) (box_new rfl (More.un (More.refl _)) 0); have z1 := hcl (wr.heap.size + 1) 0 (.int .i64 x2) (by omega) (by omega) (box_new (by simp) (More.refl _) 0)
        go_wp2_with fail
        go_roundw
        case rel => exact ⟨k + 1, by omega, by go_num, hmw _ rfl (Turns.more (by repeat (first | (with_reducible exact Turns.refl _ _) | (with_reducible apply Turns.drew) | (with_reducible apply Turns.drewN) | (with_reducible apply Turns.alloc) | (with_reducible refine Turns.via (by assumption) ?_)))), Lib.hid (by rw [edgK_next, getD_of_ HX.out, EM.out, getD_of_ HX2.out, edgeV_lt (a := (x, y)) (b := (x2, y2)) h1]; exact hl2)⟩
        case measure => simp [intOf]; omega
      · by_cases h2 : x2 < x
        · go_wp2_with (at_builtin; refine wpList_pushFlat fEdge wr rfl _ _ 71 rfl w.heap.size 179 i0 (.agg #[.int .i64 0, .int .i64 0, .int .i64 0, .int .i64 0, .int .i64 0, .bool false]) 48 Try.underlying71 hi hz0 hz1 hz2 rfl (by decide) rfl HL.out (Turns.more (by repeat (first | (with_reducible exact Turns.refl _ _) | (with_reducible apply Turns.drew) | (with_reducible apply Turns.drewN) | (with_reducible apply Turns.alloc) | (with_reducible refine Turns.via (by assumption) ?_)))) rfl (by simp) (y := ((x2, y2), (x, y), k0, false)) rfl (fEdge_ok OX2.out OY2.out OX.out OY.out HK0.out) HLen (by decide) (Lib.hid hm.size) ?_)
          intro v' w2 hl2 hmw
          go_wp2_with fail
          go_roundw
          case rel => exact ⟨k + 1, by omega, by go_num, hmw _ rfl (Turns.more (by repeat (first | (with_reducible exact Turns.refl _ _) | (with_reducible apply Turns.drew) | (with_reducible apply Turns.drewN) | (with_reducible apply Turns.alloc) | (with_reducible refine Turns.via (by assumption) ?_)))), Lib.hid (by rw [edgK_next, getD_of_ HX.out, EM.out, getD_of_ HX2.out, edgeV_gt (a := (x, y)) (b := (x2, y2)) h2]; exact hl2)⟩
          case measure => simp [intOf]; omega
        · go_wp2_with fail
          go_roundw
          case rel => exact ⟨k + 1, by omega, by go_num, (Turns.more (by repeat (first | (with_reducible exact Turns.refl _ _) | (with_reducible apply Turns.drew) | (with_reducible apply Turns.drewN) | (with_reducible apply Turns.alloc) | (with_reducible refine Turns.via (by assumption) ?_)))), Lib.hid (by rw [edgK_next, getD_of_ HX.out, EM.out, getD_of_ HX2.out, edgeV_eq (a := (x, y)) (b := (x2, y2)) h1 h2, List.append_nil]; exact FlatOwn.more HL.out (Turns.more (by repeat (first | (with_reducible exact Turns.refl _ _) | (with_reducible apply Turns.drew) | (with_reducible apply Turns.alloc)))))⟩
          case measure => simp [intOf]; omega
    · go_wp2_with fail
      go_ret
      obtain rfl : k = n := by omega
      exact ⟨_, rfl, hm, HL.out.fresh⟩
set_option maxRecDepth 4000 in
set_option maxHeartbeats 3200000 in
theorem impl_edgesOf (v : Value) (l : List QV) (k0 : Int) (w : World) (hk0 : In64 k0) (hv : tVecs.at w [v] l) (hl : l.length ≤ 1048576) :
    Calls Try.prog 136 #[v, .int .i64 k0] w fun e w' => ∃ v', e = .returned v' ∧ More w w' ∧ tEdgeS.fresh w.heap.size w' [v'] (edgK l k0 l.length) := by
  obtain ⟨ao, cap, rfl⟩ := sl_len hv
  have HV := Lib.hid hv; clear hv
  have HK0 := Lib.hid hk0; clear hk0
  obtain ⟨n, hn⟩ : ∃ n, n = l.length := ⟨_, rfl⟩
  rw [← hn] at HV hl ⊢
  have HN := Lib.hid hn; clear hn
  obtain ⟨i0, hi, hz0, hz1, hz2⟩ := info_parts infoEdge_
  go_enter Try.func136, Try.ntmps136
  go_wp2_with fail
  go_loopw [5, 12] (fun v i wr => ∃ k : Nat, k ≤ n ∧ i = .int .i64 k ∧ More w wr ∧ Hid (FlatOwn fEdge w.heap.size 179 wr v (edgK l k0 k))) (fun _ i _ => n - (intOf i).toNat)
  case atStart => exact ⟨0, Nat.zero_le _, rfl, (Turns.more (by repeat (first | (with_reducible exact Turns.refl _ _) | (with_reducible apply Turns.drew) | (with_reducible apply Turns.drewN) | (with_reducible apply Turns.alloc) | (with_reducible refine Turns.via (by assumption) ?_)))), Lib.hid (FlatOwn.lit (Nat.le_refl _))⟩
  case round =>
    obtain ⟨k, hk, rfl, hm, HL⟩ := hrel
    by_cases hlt : k < n
    · obtain ⟨b, off, x, y, rfl, hblt, hx, ox, oy, c0, c1⟩ := vec_el (Ty.at_more HV.out hm) (k := k) (by rw [← HN.out]; exact hlt)
      obtain ⟨m, em⟩ : ∃ m, m = (k + 1) % n := ⟨_, rfl⟩
      have hmn : m < n := by rw [em]; exact Nat.mod_lt _ (by omega)
      obtain ⟨b2, off2, x2, y2, hadr, -, hx2, ox2, oy2, c2, c3⟩ := vec_el (Ty.at_more HV.out hm) (k := m) (by rw [← HN.out]; exact hmn)
      simp only [Option.some.injEq, Addr.mk.injEq] at hadr
      obtain ⟨rfl, rfl, -⟩ := hadr
      have EM : Hid ((k + 1) % l.length = m) := Lib.hid (by rw [← HN.out]; exact em.symm)
      have emi : ((k : Int) + 1) % (n : Int) = (m : Int) := by rw [em]; simp
      have hi0 : (0 : Int) ≤ (m : Int) := by omega
      have hi1 : (m : Int) < (n : Int) := by omega
      have hwk : IntKind.i64.wrap ((k : Int) + 1) = (k : Int) + 1 := IntWalk.i64_in _ (by omega)
      have hwz : (0 : Int) ≤ (k : Int) + 1 := by omega
      have hmt : ((k : Int) + 1).tmod (n : Int) = (m : Int) := by rw [Int.tmod_eq_emod_of_nonneg (by omega)]; exact emi
      have hmz : ((n : Int) == 0) = false := by simp; omega
      clear em emi
      have HX := Lib.hid hx; have HX2 := Lib.hid hx2; clear hx hx2
      have OX := Lib.hid ox; have OY := Lib.hid oy; have OX2 := Lib.hid ox2; have OY2 := Lib.hid oy2; clear ox oy ox2 oy2
      have HLen : Hid ((edgK l k0 k).length ≤ 2097152) := Lib.hid (by have := edgK_len l k0 k; omega)
      by_cases h1 : x < x2
      · go_wp2_with (at_builtin; refine wpList_pushFlat fEdge wr rfl _ _ 71 rfl w.heap.size 179 i0 (.agg #[.int .i64 0, .int .i64 0, .int .i64 0, .int .i64 0, .int .i64 0, .bool false]) 48 Try.underlying71 hi hz0 hz1 hz2 rfl (by decide) rfl HL.out (Turns.more (by repeat (first | (with_reducible exact Turns.refl _ _) | (with_reducible apply Turns.drew) | (with_reducible apply Turns.drewN) | (with_reducible apply Turns.alloc) | (with_reducible refine Turns.via (by assumption) ?_)))) rfl (by simp) (y := ((x, y), (x2, y2), k0, true)) rfl (fEdge_ok OX.out OY.out OX2.out OY2.out HK0.out) HLen (by decide) (Lib.hid hm.size) ?_)
        intro v' w2 hl2 hmw
        skip
        go_wp2_with fail
        go_roundw
        case rel => exact ⟨k + 1, by omega, by go_num, hmw _ rfl (Turns.more (by repeat (first | (with_reducible exact Turns.refl _ _) | (with_reducible apply Turns.drew) | (with_reducible apply Turns.drewN) | (with_reducible apply Turns.alloc) | (with_reducible refine Turns.via (by assumption) ?_)))), Lib.hid (by rw [edgK_next, getD_of_ HX.out, EM.out, getD_of_ HX2.out, edgeV_lt (a := (x, y)) (b := (x2, y2)) h1]; exact hl2)⟩
        case measure => simp [intOf]; omega
      · by_cases h2 : x2 < x
        · go_wp2_with (at_builtin; refine wpList_pushFlat fEdge wr rfl _ _ 71 rfl w.heap.size 179 i0 (.agg #[.int .i64 0, .int .i64 0, .int .i64 0, .int .i64 0, .int .i64 0, .bool false]) 48 Try.underlying71 hi hz0 hz1 hz2 rfl (by decide) rfl HL.out (Turns.more (by repeat (first | (with_reducible exact Turns.refl _ _) | (with_reducible apply Turns.drew) | (with_reducible apply Turns.drewN) | (with_reducible apply Turns.alloc) | (with_reducible refine Turns.via (by assumption) ?_)))) rfl (by simp) (y := ((x2, y2), (x, y), k0, false)) rfl (fEdge_ok OX2.out OY2.out OX.out OY.out HK0.out) HLen (by decide) (Lib.hid hm.size) ?_)
          intro v' w2 hl2 hmw
          go_wp2_with fail
          go_roundw
          case rel => exact ⟨k + 1, by omega, by go_num, hmw _ rfl (Turns.more (by repeat (first | (with_reducible exact Turns.refl _ _) | (with_reducible apply Turns.drew) | (with_reducible apply Turns.drewN) | (with_reducible apply Turns.alloc) | (with_reducible refine Turns.via (by assumption) ?_)))), Lib.hid (by rw [edgK_next, getD_of_ HX.out, EM.out, getD_of_ HX2.out, edgeV_gt (a := (x, y)) (b := (x2, y2)) h2]; exact hl2)⟩
          case measure => simp [intOf]; omega
        · go_wp2_with fail
          go_roundw
          case rel => exact ⟨k + 1, by omega, by go_num, (Turns.more (by repeat (first | (with_reducible exact Turns.refl _ _) | (with_reducible apply Turns.drew) | (with_reducible apply Turns.drewN) | (with_reducible apply Turns.alloc) | (with_reducible refine Turns.via (by assumption) ?_)))), Lib.hid (by rw [edgK_next, getD_of_ HX.out, EM.out, getD_of_ HX2.out, edgeV_eq (a := (x, y)) (b := (x2, y2)) h1 h2, List.append_nil]; exact FlatOwn.more HL.out (Turns.more (by repeat (first | (with_reducible exact Turns.refl _ _) | (with_reducible apply Turns.drew) | (with_reducible apply Turns.alloc)))))⟩
          case measure => simp [intOf]; omega
    · go_wp2_with fail
      go_ret
      obtain rfl : k = n := by omega
      exact ⟨_, rfl, hm, HL.out.fresh⟩
noncomputable def badP (l : List QV) : Bool := !isPoly l
set_option maxHeartbeats 400000 in
theorem impl_arePolygons_1 (v : Value) (l : List QV) (w : World) (hv : tVecs.at w [v] l) (hl : l.length ≤ 1048576) :
    Calls Try.prog 211 #[v] w fun e w' => e = .returned (.bool (badP l)) ∧ More w w' := by
  have HV := Lib.hid hv; have HL := Lib.hid hl; clear hv hl
  go_enter Try.func211, Try.ntmps211
  go_wp2_with (go_at_call 48; refine (impl_IsPolygon _ l _ (Ty.at_more HV.out (Turns.more (by repeat (first | (with_reducible exact Turns.refl _ _) | (with_reducible apply Turns.drew) | (with_reducible apply Turns.drewN) | (with_reducible apply Turns.alloc) | (with_reducible refine Turns.via (by assumption) ?_))))) HL.out).mono ?_; rintro e w1 ⟨rfl, hb1⟩)
  go_ret
  exact ⟨rfl, (Turns.more (by repeat (first | (with_reducible exact Turns.refl _ _) | (with_reducible apply Turns.drew) | (with_reducible apply Turns.drewN) | (with_reducible apply Turns.alloc) | (with_reducible refine Turns.via (by assumption) ?_))))⟩
set_option maxHeartbeats 1600000 in
theorem indexFunc_arePolygons (v : Value) (l : List (List QV)) (w : World)  (hv : tVecSS.at w [v] l) (hl : wVecSS l ≤ 1048576) :
    Calls Try.prog 236 #[v, .func (.func 211) #[] #[]] w fun e w' => e = .returned (.int .i64 (idxI badP l)) ∧ More w w' := by
  obtain ⟨ao, cap, rfl⟩ := sl_len hv
  have HV := Lib.hid hv; clear hv
  have HWl : Hid (l.length + wsum wVecS l ≤ 1048576) := Lib.hid hl
  have hl : l.length ≤ 1048576 := by have := HWl.out; omega
  have Q : Hid (∀ W, More w W → True) := Lib.hid (fun W h => trivial)
  skip
  obtain ⟨n, hn⟩ : ∃ n, n = l.length := ⟨_, rfl⟩
  rw [← hn] at HV hl ⊢
  have HN := Lib.hid hn; clear hn
  go_enter Try.func236, Try.ntmps236
  go_wp2_with fail
  go_loopw [8] (fun i wr => ∃ k : Nat, k ≤ n ∧ i = .int .i64 k ∧ More w wr ∧ Hid (∀ (i : Nat) y, i < k → l[i]? = some y → badP y = false)) (fun i _ => n - (intOf i).toNat)
  case atStart => exact ⟨0, Nat.zero_le _, rfl, More.refl _, Lib.hid (fun i y hi => by omega)⟩
  case round =>
    obtain ⟨k, hk, rfl, hm, HB⟩ := hrel
    by_cases hlt : k < n
    · obtain ⟨b, off, x, a0, n0, c0, rfl, hblt, hx, hat, c0_⟩ := el_VecS (Ty.at_more HV.out hm) (k := k) (by rw [← HN.out]; exact hlt)
      have HX := Lib.hid hx; have HA := Lib.hid hat; clear hx hat
      rcases Bool.eq_false_or_eq_true (badP x) with hd | hd
      all_goals
        have HD := Lib.hid hd
        go_wp2_with fail
        refine (impl_arePolygons_1 _ x _ (Ty.at_more HA.out (Turns.more (by repeat (first | (with_reducible exact Turns.refl _ _) | (with_reducible apply Turns.drew) | (with_reducible apply Turns.drewN) | (with_reducible apply Turns.alloc) | (with_reducible refine Turns.via (by assumption) ?_))))) (show wVecS x ≤ 1048576 by have := wsum_el (f := wVecS) HX.out; have := HWl.out; omega)).mono ?_
        rintro e w1 ⟨rfl, hb1⟩
        rw [HD.out]
        go_wp2_with fail
      · go_ret
        exact ⟨ret_int (idxI_found HB.out HX.out HD.out).symm, (Turns.more (by repeat (first | (with_reducible exact Turns.refl _ _) | (with_reducible apply Turns.drew) | (with_reducible apply Turns.drewN) | (with_reducible apply Turns.alloc) | (with_reducible refine Turns.via (by assumption) ?_))))⟩
      · go_roundw
        case rel => exact ⟨k + 1, by omega, by go_num, (Turns.more (by repeat (first | (with_reducible exact Turns.refl _ _) | (with_reducible apply Turns.drew) | (with_reducible apply Turns.drewN) | (with_reducible apply Turns.alloc) | (with_reducible refine Turns.via (by assumption) ?_)))), Lib.hid (fun i z hi hz => by
          rcases Nat.lt_succ_iff_lt_or_eq.1 hi with h | rfl
          · exact HB.out i z h hz
          · rw [HX.out] at hz; cases hz; exact HD.out)⟩
        case measure => simp [intOf]; omega
    · go_wp2_with fail
      go_ret
      exact ⟨ret_int (idxI_none (fun i z hz => HB.out i z (by have := (List.getElem?_eq_some_iff.1 hz).1; have := HN.out; omega) hz)).symm, hm⟩
set_option maxHeartbeats 800000 in
theorem containsFunc_arePolygons (v : Value) (l : List (List QV)) (w : World)  (hv : tVecSS.at w [v] l) (hl : wVecSS l ≤ 1048576) :
    Calls Try.prog 210 #[v, .func (.func 211) #[] #[]] w fun e w' => e = .returned (.bool (l.any badP)) ∧ More w w' := by
  have C := Lib.hid (indexFunc_arePolygons v l w  hv hl)
  clear hv hl 
  go_enter Try.func210, Try.ntmps210
  go_wp2_with (go_at_call 236; refine C.out.mono ?_; rintro e w1 ⟨rfl, hb1⟩)
  go_ret
  exact ⟨ret_bool idxI_nonneg, (Turns.more (by repeat (first | (with_reducible exact Turns.refl _ _) | (with_reducible apply Turns.drew) | (with_reducible apply Turns.drewN) | (with_reducible apply Turns.alloc) | (with_reducible refine Turns.via (by assumption) ?_))))⟩
set_option maxHeartbeats 400000 in
theorem impl_arePolygons (v : Value) (l : List (List QV)) (w : World) (hv : tVecSS.at w [v] l) (hl : wVecSS l ≤ 1048576) :
    Calls Try.prog 135 #[v] w fun e w' => e = .returned (.bool (l.all isPoly)) ∧ More w w' := by
  have HV := Lib.hid hv; have HL := Lib.hid hl; clear hv hl
  go_enter Try.func135, Try.ntmps135
  go_wp2_with (go_at_call 210; refine (containsFunc_arePolygons _ l _ (Ty.at_more HV.out (Turns.more (by repeat (first | (with_reducible exact Turns.refl _ _) | (with_reducible apply Turns.drew) | (with_reducible apply Turns.drewN) | (with_reducible apply Turns.alloc) | (with_reducible refine Turns.via (by assumption) ?_))))) HL.out).mono ?_; rintro e w1 ⟨rfl, hb1⟩)
  go_ret
  exact ⟨ret_bool (by rw [List.not_any_eq_all_not]; congr 1; funext x; simp [badP]), (Turns.more (by repeat (first | (with_reducible exact Turns.refl _ _) | (with_reducible apply Turns.drew) | (with_reducible apply Turns.drewN) | (with_reducible apply Turns.alloc) | (with_reducible refine Turns.via (by assumption) ?_))))⟩
set_option maxHeartbeats 3200000 in
theorem spec_EdgesOf (v : Value) (ls : List (List QV)) (w : World) (hv : tVecSS.at w [v] ls) (hl : wVecSS ls ≤ 1048576) :
    Calls Try.prog 53 #[v] w fun e w' => ∃ v', e = .returned v' ∧ More w w' ∧ tEdgeS.fresh w.heap.size w' [v'] (edgF ls) := by
  have HV0 := Lib.hid hv
  obtain ⟨ao, cap, rfl⟩ := sl_len hv
  have HV := Lib.hid hv; clear hv
  have HW := Lib.hid hl
  obtain ⟨n, hn⟩ : ∃ n, n = ls.length := ⟨_, rfl⟩
  have hn1 : n ≤ 1048576 := by rw [hn]; unfold wVecSS at hl; omega
  clear hl
  rw [← hn] at HV HV0 ⊢
  have HN := Lib.hid hn; clear hn
  obtain ⟨i0, hi, hz0, hz1, hz2⟩ := info_parts infoEdge_
  go_enter Try.func53, Try.ntmps53
  go_wp2_with fail
  go_loopw [3, 9] (fun v i wr => ∃ k : Nat, k ≤ n ∧ i = .int .i64 k ∧ More w wr ∧ Hid ((ls.take k).all isPoly = true) ∧ Hid (FlatOwn fEdge w.heap.size 179 wr v (edgA ls k))) (fun _ i _ => n - (intOf i).toNat)
  case atStart => exact ⟨0, Nat.zero_le _, rfl, (Turns.more (by repeat (first | (with_reducible exact Turns.refl _ _) | (with_reducible apply Turns.drew) | (with_reducible apply Turns.drewN) | (with_reducible apply Turns.alloc) | (with_reducible refine Turns.via (by assumption) ?_)))), Lib.hid rfl, Lib.hid (FlatOwn.lit (Nat.le_refl _))⟩
  case round =>
    obtain ⟨k, hk, rfl, hm, HP, HL⟩ := hrel
    by_cases hlt : k < n
    · obtain ⟨b, off, x, p1, p2, p3, rfl, hblt, hx, hat, c0⟩ := el_VecS (Ty.at_more HV.out hm) (k := k) (by rw [← HN.out]; exact hlt)
      have HX := Lib.hid hx; have HA := Lib.hid hat; clear hx hat
      have HXW : Hid (wVecS x ≤ 1048576) := Lib.hid (by have := wsum_el (f := wVecS) HX.out; have := HW.out; unfold wVecSS at this; omega)
      have HLen : Hid ((edgA ls k).length + (edgK x k x.length).length ≤ 4194304) := Lib.hid (by
        have h1 := edgA_len ls k (by rw [← HN.out]; exact hk)
        have h2 := edgK_len x k x.length
        have h3 := HXW.out
        have h4 := wsum_take wVecS ls k
        have h5 := HW.out
        unfold wVecSS at h5
        unfold wVecS at h3
        omega)
      rcases Bool.eq_false_or_eq_true (isPoly x) with hb | hb
      · have HB := Lib.hid hb
        go_wp2_with (first | (go_at_call 103; refine (spec_IsPolygon _ x _ (Ty.at_more HA.out (Turns.more (by repeat (first | (with_reducible exact Turns.refl _ _) | (with_reducible apply Turns.drew) | (with_reducible apply Turns.drewN) | (with_reducible apply Turns.alloc) | (with_reducible refine Turns.via (by assumption) ?_))))) (by have := HXW.out; unfold wVecS at this; omega)).mono ?_; rintro e w9 ⟨rfl, hb9⟩) | (go_at_call 134; refine (spec_l12Edges _ x k _ (In64.small (by omega)) (Ty.at_more HA.out (Turns.more (by repeat (first | (with_reducible exact Turns.refl _ _) | (with_reducible apply Turns.drew) | (with_reducible apply Turns.drewN) | (with_reducible apply Turns.alloc) | (with_reducible refine Turns.via (by assumption) ?_))))) (by have := HXW.out; unfold wVecS at this; omega)).mono ?_; rintro e w1 ⟨v1, rfl, hb1, f1⟩; obtain ⟨a1, c1, rfl⟩ := sl_len (Ty.fresh_at f1)) | (at_builtin; refine wpList_appAll fEdge wr rfl _ _ 71 rfl w.heap.size 179 i0 (.agg #[.int .i64 0, .int .i64 0, .int .i64 0, .int .i64 0, .int .i64 0, .bool false]) 48 Try.underlying71 hi hz0 hz1 hz2 rfl (by decide) rfl HL.out (Turns.more (by repeat (first | (with_reducible exact Turns.refl _ _) | (with_reducible apply Turns.drew) | (with_reducible apply Turns.drewN) | (with_reducible apply Turns.alloc) | (with_reducible refine Turns.via (by assumption) ?_)))) (m := edgK x k x.length) rfl (Ty.fresh_at f1) HLen (by decide) (Lib.hid hm.size) ?_))
        intro v' w2 hl2 hmw
        go_wp2_with fail
        go_roundw
        case rel => exact ⟨k + 1, by omega, by go_num, hmw _ rfl (Turns.more (by repeat (first | (with_reducible exact Turns.refl _ _) | (with_reducible apply Turns.drew) | (with_reducible apply Turns.drewN) | (with_reducible apply Turns.alloc) | (with_reducible refine Turns.via (by assumption) ?_)))), Lib.hid (all_take_next HX.out HP.out hb), Lib.hid (by rw [edgA_next HX.out]; exact hl2)⟩
        case measure => simp [intOf]; omega
      · have HB := Lib.hid hb
        go_wp2_with (go_at_call 103; refine (spec_IsPolygon _ x _ (Ty.at_more HA.out (Turns.more (by repeat (first | (with_reducible exact Turns.refl _ _) | (with_reducible apply Turns.drew) | (with_reducible apply Turns.drewN) | (with_reducible apply Turns.alloc) | (with_reducible refine Turns.via (by assumption) ?_))))) (by have := HXW.out; unfold wVecS at this; omega)).mono ?_; rintro e w9 ⟨rfl, hb9⟩)
        go_ret
        exact ⟨_, rfl, (Turns.more (by repeat (first | (with_reducible exact Turns.refl _ _) | (with_reducible apply Turns.drew) | (with_reducible apply Turns.drewN) | (with_reducible apply Turns.alloc) | (with_reducible refine Turns.via (by assumption) ?_)))), by rw [edgF, all_false HX.out HB.out]; exact nil_fresh⟩
    · go_wp2_with fail
      go_ret
      obtain rfl : k = n := by omega
      exact ⟨_, rfl, hm, by
        have h1 := HL.out.fresh
        have h2 := HP.out
        rw [HN.out, List.take_length] at h2
        rw [HN.out] at h1
        rw [edgF, if_pos h2]
        exact h1⟩
set_option maxHeartbeats 3200000 in
theorem impl_EdgesOf (v : Value) (ls : List (List QV)) (w : World) (hv : tVecSS.at w [v] ls) (hl : wVecSS ls ≤ 1048576) :
    Calls Try.prog 55 #[v] w fun e w' => ∃ v', e = .returned v' ∧ More w w' ∧ tEdgeS.fresh w.heap.size w' [v'] (edgF ls) := by
  have HV0 := Lib.hid hv
  obtain ⟨ao, cap, rfl⟩ := sl_len hv
  have HV := Lib.hid hv; clear hv
  have HW := Lib.hid hl
  obtain ⟨n, hn⟩ : ∃ n, n = ls.length := ⟨_, rfl⟩
  have hn1 : n ≤ 1048576 := by rw [hn]; unfold wVecSS at hl; omega
  clear hl
  rw [← hn] at HV HV0 ⊢
  have HN := Lib.hid hn; clear hn
  obtain ⟨i0, hi, hz0, hz1, hz2⟩ := info_parts infoEdge_
  rcases Bool.eq_false_or_eq_true (ls.all isPoly) with ha | ha
  rotate_left
  · have HA := Lib.hid ha
    go_enter Try.func55, Try.ntmps55
    go_wp2_with (go_at_call 135; refine (impl_arePolygons _ ls _ HV0.out HW.out).mono ?_; rintro e w1 ⟨rfl, hb1⟩)
    go_ret
    exact ⟨_, rfl, (Turns.more (by repeat (first | (with_reducible exact Turns.refl _ _) | (with_reducible apply Turns.drew) | (with_reducible apply Turns.drewN) | (with_reducible apply Turns.alloc) | (with_reducible refine Turns.via (by assumption) ?_)))), by rw [edgF, HA.out]; exact nil_fresh⟩
  have HAL := Lib.hid ha
  go_enter Try.func55, Try.ntmps55
  go_wp2_with (go_at_call 135; refine (impl_arePolygons _ ls _ HV0.out HW.out).mono ?_; rintro e w1 ⟨rfl, hb1⟩)
  clear ha
  go_loopw [3, 12] (fun v i wr => ∃ k : Nat, k ≤ n ∧ i = .int .i64 k ∧ More w wr ∧ Hid (FlatOwn fEdge w.heap.size 179 wr v (edgA ls k))) (fun _ i _ => n - (intOf i).toNat)
  case atStart => exact ⟨0, Nat.zero_le _, rfl, (Turns.more (by repeat (first | (with_reducible exact Turns.refl _ _) | (with_reducible apply Turns.drew) | (with_reducible apply Turns.drewN) | (with_reducible apply Turns.alloc) | (with_reducible refine Turns.via (by assumption) ?_)))), Lib.hid (FlatOwn.lit hb1.size)⟩
  case round =>
    obtain ⟨k, hk, rfl, hm, HL⟩ := hrel
    by_cases hlt : k < n
    · obtain ⟨b, off, x, p1, p2, p3, rfl, hblt, hx, hat, c0⟩ := el_VecS (Ty.at_more HV.out hm) (k := k) (by rw [← HN.out]; exact hlt)
      have HX := Lib.hid hx; have HA := Lib.hid hat; clear hx hat
      have HXW : Hid (wVecS x ≤ 1048576) := Lib.hid (by have := wsum_el (f := wVecS) HX.out; have := HW.out; unfold wVecSS at this; omega)
      have HLen : Hid ((edgA ls k).length + (edgK x k x.length).length ≤ 4194304) := Lib.hid (by
        have h1 := edgA_len ls k (by rw [← HN.out]; exact hk)
        have h2 := edgK_len x k x.length
        have h3 := HXW.out
        have h4 := wsum_take wVecS ls k
        have h5 := HW.out
        unfold wVecSS at h5
        unfold wVecS at h3
        omega)
      · go_wp2_with (first | (go_at_call 136; refine (impl_edgesOf _ x k _ (In64.small (by omega)) (Ty.at_more HA.out (Turns.more (by repeat (first | (with_reducible exact Turns.refl _ _) | (with_reducible apply Turns.drew) | (with_reducible apply Turns.drewN) | (with_reducible apply Turns.alloc) | (with_reducible refine Turns.via (by assumption) ?_))))) (by have := HXW.out; unfold wVecS at this; omega)).mono ?_; rintro e w1 ⟨v1, rfl, hb1, f1⟩; obtain ⟨a1, c1, rfl⟩ := sl_len (Ty.fresh_at f1)) | (at_builtin; refine wpList_appAll fEdge wr rfl _ _ 71 rfl w.heap.size 179 i0 (.agg #[.int .i64 0, .int .i64 0, .int .i64 0, .int .i64 0, .int .i64 0, .bool false]) 48 Try.underlying71 hi hz0 hz1 hz2 rfl (by decide) rfl HL.out (Turns.more (by repeat (first | (with_reducible exact Turns.refl _ _) | (with_reducible apply Turns.drew) | (with_reducible apply Turns.drewN) | (with_reducible apply Turns.alloc) | (with_reducible refine Turns.via (by assumption) ?_)))) (m := edgK x k x.length) rfl (Ty.fresh_at f1) HLen (by decide) (Lib.hid hm.size) ?_))
        intro v' w2 hl2 hmw
        go_wp2_with fail
        go_roundw
        case rel => exact ⟨k + 1, by omega, by go_num, hmw _ rfl (Turns.more (by repeat (first | (with_reducible exact Turns.refl _ _) | (with_reducible apply Turns.drew) | (with_reducible apply Turns.drewN) | (with_reducible apply Turns.alloc) | (with_reducible refine Turns.via (by assumption) ?_)))), Lib.hid (by rw [edgA_next HX.out]; exact hl2)⟩
        case measure => simp [intOf]; omega
    · go_wp2_with fail
      go_ret
      obtain rfl : k = n := by omega
      exact ⟨_, rfl, hm, by
        have h1 := HL.out.fresh
        rw [HN.out] at h1
        rw [edgF, if_pos HAL.out]
        exact h1⟩
end Go.Proofs.Ytejhibpaknjhnaa
