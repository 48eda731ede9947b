/- SeparatingEdge and Touches: the reference's and the program's. -/
import Derived.Test.YtejhibpaknjhnaaPoly
import Derived.Test.YtejhibpaknjhnaaNeg
import Derived.Test.YtejhibpaknjhnaaKin
import Derived.Deep.RegionHeld3
import Derived.Deep.QuietTactic
import Derived.BigQuiet
import Derived.IntWalk
namespace Go.Proofs.Ytejhibpaknjhnaa
open Go.RowKit
theorem more_alloc (w : World) (o : Obj) : More w (w.alloc o) := Turns.more ((Turns.refl _ _).alloc _)
theorem poly_isV' {l : List QV} (h : isPoly l = true) : l.all isV = true := by
  cases h' : l.all isV with
  | true => rfl
  | false => rw [poly_inv h'] at h; cases h
theorem isV_at {l : List QV} (h : l.all isV = true) {k : Nat} {x : QV} (hx : l[k]? = some x) : isV x = true := List.all_eq_true.1 h _ (List.mem_of_getElem? hx)
def tnOk (a : List QV) (i : Nat) (c : QV) : Bool := decide (tn (a.getD i (0, 0)) (a.getD ((i + 1) % a.length) (0, 0)) c < 0)
def sepAt (a b : List QV) (i : Nat) : Bool := b.all (tnOk a i)
def sepU (a b : List QV) : Int := idxI (fun i : Int => sepAt a b i.toNat) (mk1 a.length 0)
noncomputable def sepF (a b : List QV) : Int := if isPoly a && isPoly b then sepU a b else -1
theorem sepU_found {a b : List QV} {k : Nat} (hk : k < a.length) (h1 : ∀ i, i < k → sepAt a b i = false) (h2 : sepAt a b k = true) : sepU a b = k := by
  unfold sepU
  have e := mk1_get (k := 0) hk
  refine idxI_found (x := (0 : Int) + k) (fun i y hi hy => ?_) e (by simpa using h2)
  rw [mk1_get (by omega)] at hy
  cases hy
  simpa using h1 i hi
theorem sepU_none {a b : List QV} (h1 : ∀ i, i < a.length → sepAt a b i = false) : sepU a b = -1 := by
  unfold sepU
  refine idxI_none (fun i y hy => ?_)
  have hi : i < a.length := by have := (List.getElem?_eq_some_iff.1 hy).1; rwa [mk1_len] at this
  rw [mk1_get hi] at hy
  cases hy
  simpa using h1 i hi
set_option maxHeartbeats 6400000 in
theorem spec_SeparatingEdge (v v' : Value) (a b : List QV) (w : World) (hv : tVecs.at w [v] a) (hv' : tVecs.at w [v'] b) (hl : a.length ≤ 1048576) (hm : b.length ≤ 1048576) :
    Calls Try.prog 19 #[v, v'] w fun e w' => e = .returned (.int .i64 (sepF a b)) ∧ More w w' := by
  have HV0 := Lib.hid hv; have HV0' := Lib.hid hv'
  have HL := Lib.hid hl; have HM := Lib.hid hm
  rcases Bool.eq_false_or_eq_true (isPoly a) with pa | pa
  rotate_left
  · have PA := Lib.hid pa
    obtain ⟨ao, cap, rfl⟩ := sl_len hv
    obtain ⟨ao', cap', rfl⟩ := sl_len hv'
    clear hv hv' hl hm
    go_enter Try.func19, Try.ntmps19
    go_wp2_with (go_at_call 103; refine (spec_IsPolygon _ a _ (Ty.at_more HV0.out (Turns.more (by repeat (first | (with_reducible exact Turns.refl _ _) | (with_reducible apply Turns.drew) | (with_reducible apply Turns.drewN) | (with_reducible apply Turns.alloc) | (with_reducible refine Turns.via (by assumption) ?_))))) HL.out).mono ?_; rintro e w1 ⟨rfl, hb1⟩)
    go_ret
    exact ⟨ret_int (by rw [sepF, PA.out]; rfl), (Turns.more (by repeat (first | (with_reducible exact Turns.refl _ _) | (with_reducible apply Turns.drew) | (with_reducible apply Turns.drewN) | (with_reducible apply Turns.alloc) | (with_reducible refine Turns.via (by assumption) ?_))))⟩
  rcases Bool.eq_false_or_eq_true (isPoly b) with pb | pb
  rotate_left
  · have PB := Lib.hid pb
    obtain ⟨ao, cap, rfl⟩ := sl_len hv
    obtain ⟨ao', cap', rfl⟩ := sl_len hv'
    clear hv hv' hl hm
    go_enter Try.func19, Try.ntmps19
    go_wp2_with fail
    refine (spec_IsPolygon _ a _ HV0.out HL.out).mono ?_; rintro e w1 ⟨rfl, hb1⟩
    go_wp2_with fail
    refine (spec_IsPolygon _ b _ (Ty.at_more HV0'.out (Turns.more (by repeat (first | (with_reducible exact Turns.refl _ _) | (with_reducible apply Turns.drew) | (with_reducible apply Turns.drewN) | (with_reducible apply Turns.alloc) | (with_reducible refine Turns.via (by assumption) ?_))))) HM.out).mono ?_; rintro e w2 ⟨rfl, hb2⟩
    go_wp2_with fail
    go_ret
    exact ⟨ret_int (by rw [sepF, PB.out]; simp), (Turns.more (by repeat (first | (with_reducible exact Turns.refl _ _) | (with_reducible apply Turns.drew) | (with_reducible apply Turns.drewN) | (with_reducible apply Turns.alloc) | (with_reducible refine Turns.via (by assumption) ?_))))⟩
  have PP : Hid (sepF a b = sepU a b) := Lib.hid (by rw [sepF, pa, pb]; rfl)
  have VA := Lib.hid (poly_isV' pa); have VB := Lib.hid (poly_isV' pb)
  obtain ⟨ao, cap, rfl⟩ := sl_len hv
  obtain ⟨ao', cap', rfl⟩ := sl_len hv'
  have HV := Lib.hid hv; clear hv
  have HV' := Lib.hid hv'; clear hv'
  obtain ⟨n, hn⟩ : ∃ n, n = a.length := ⟨_, rfl⟩
  obtain ⟨n', hn'⟩ : ∃ n', n' = b.length := ⟨_, rfl⟩
  rw [← hn] at HV HV0 hl ⊢
  rw [← hn'] at HV' HV0' hm ⊢
  have HN := Lib.hid hn; have HN' := Lib.hid hn'; clear hn hn'
  go_enter Try.func19, Try.ntmps19
  go_wp2_with fail
  refine (spec_IsPolygon _ a _ HV0.out HL.out).mono ?_; rintro e w1 ⟨rfl, hb1⟩
  go_wp2_with fail
  refine (spec_IsPolygon _ b _ (Ty.at_more HV0'.out (Turns.more (by repeat (first | (with_reducible exact Turns.refl _ _) | (with_reducible apply Turns.drew) | (with_reducible apply Turns.drewN) | (with_reducible apply Turns.alloc) | (with_reducible refine Turns.via (by assumption) ?_))))) HM.out).mono ?_; rintro e w2 ⟨rfl, hb2⟩
  go_wp2_with fail
  have M2 : More w w2 := (Turns.more (by repeat (first | (with_reducible exact Turns.refl _ _) | (with_reducible apply Turns.drew) | (with_reducible apply Turns.drewN) | (with_reducible apply Turns.alloc) | (with_reducible refine Turns.via (by assumption) ?_))))
  clear pa pb hb1 hb2
  go_loopw [20] (fun i wr => ∃ k : Nat, k ≤ n ∧ i = .int .i64 k ∧ More w wr ∧ Hid (∀ k', k' < k → sepAt a b k' = false)) (fun i _ => n - (intOf i).toNat)
  case atStart => exact ⟨0, Nat.zero_le _, rfl, M2, Lib.hid (fun j hj => by omega)⟩
  case round =>
    obtain ⟨k, hk, rfl, hmr, HK⟩ := hrel
    clear M2
    obtain ⟨wo, rfl⟩ : ∃ wo : World, wo = wr := ⟨_, rfl⟩
    by_cases hlt : k < n
    · obtain ⟨ba, offa, px, py, rfl, hbla, hpx, -, -, p0, p1⟩ := vec_el (Ty.at_more HV.out hmr) (k := k) (by rw [← HN.out]; exact hlt)
      obtain ⟨m, em⟩ : ∃ m, m = (k + 1) % n := ⟨_, rfl⟩
      have hmlt : m < n := by rw [em]; exact Nat.mod_lt _ (by omega)
      have EM := Lib.hid em
      have emi : ((k : Int) + 1) % (n : Int) = (m : Int) := by rw [em]; simp
      have mi0 : (0 : Int) ≤ (m : Int) := by omega
      have mi1 : (m : Int) < (n : Int) := by omega
      clear em
      obtain ⟨ba', offa', nx, ny, e', -, hnx, -, -, n0, n1⟩ := vec_el (Ty.at_more HV.out hmr) (k := m) (by rw [← HN.out]; exact hmlt)
      cases e'
      have HPX := Lib.hid hpx; have HNX := Lib.hid hnx; clear hpx hnx
      have HA : Hid (∀ w', More (wo.alloc (.cells #[.int .i64 px, .int .i64 py] 30)) w' → w'.cell? ⟨wo.heap.size, 0, none⟩ = some (.int .i64 px) ∧ w'.cell? ⟨wo.heap.size, 1, none⟩ = some (.int .i64 py) ∧ w'.cell? ⟨ba, offa + m * 2, none⟩ = some (.int .i64 nx) ∧ w'.cell? ⟨ba, offa + m * 2 + 1, none⟩ = some (.int .i64 ny)) :=
        Lib.hid (fun w' h => ⟨box_new rfl h 0, box_new rfl h 1, ((bcell (More.un h)).1 _ _ hbla).trans n0, ((bcell (More.un h)).1 _ _ hbla).trans n1⟩)
      go_wp2_with fail
      clear n0 n1 p0 p1
      go_loopw [7, 27] (fun c i wr => ∃ (j : Nat) (s : Bool), j ≤ n' ∧ i = .int .i64 j ∧ c = .bool s ∧ More (wo.alloc (.cells #[.int .i64 px, .int .i64 py] 30)) wr ∧ Hid (s = (b.take j).all (tnOk a k))) (fun _ i _ => n' - (intOf i).toNat)
      case atStart => exact ⟨0, true, Nat.zero_le _, rfl, rfl, More.refl _, Lib.hid (by simp)⟩
      case round =>
        obtain ⟨j, s, hj, rfl, rfl, hmj, HS⟩ := hrel
        have hMw : More w wr := hmr.trans ((more_alloc _ _).trans hmj)
        have HMw := Lib.hid hMw
        have hso : wo.heap.size < wr.heap.size := by have := hmj.size; simp at this; omega
        by_cases hjn : j < n'
        · obtain ⟨bb, offb, qx, qy, rfl, hblb, hqx, -, -, q0, q1⟩ := vec_el (Ty.at_more HV'.out hMw) (k := j) (by rw [← HN'.out]; exact hjn)
          have HQ := Lib.hid hqx; clear hqx hMw
          have HT : Hid (tnOk a k (qx, qy) = decide (tn (px, py) (nx, ny) (qx, qy) < 0)) := Lib.hid (by rw [tnOk, getD_of HPX.out, ← HN.out, ← EM.out, getD_of HNX.out])
          cases s with
          | false =>
            go_wp2_with fail
            go_quiet (fail)
            go_wp2_with fail
            go_roundw
            case rel => exact ⟨j + 1, false, by omega, by go_num, rfl, More.trans hmj (Turns.more (by repeat (first | (with_reducible exact Turns.refl _ _) | (with_reducible apply Turns.drew) | (with_reducible apply Turns.drewN) | (with_reducible apply Turns.alloc) | (with_reducible refine Turns.via (by assumption) ?_)))), Lib.hid (by rw [take_next HQ.out, List.all_append, ← HS.out]; rfl)⟩
            case measure => simp [intOf]; omega
          | true =>
            have hvp := isV_at VA.out HPX.out; have hvn := isV_at VA.out HNX.out; have hvq := isV_at VB.out HQ.out
            have HTN : Hid (turnF (px, py) (nx, ny) (qx, qy) = tn (px, py) (nx, ny) (qx, qy)) := Lib.hid (by rw [turnF, if_pos (by simp [hvp, hvn, hvq])])
            clear hvp hvn hvq
            have HR : ∀ w', More (wr.alloc (.cells #[.int .i64 qx, .int .i64 qy] 30)) w' → (w'.cell? ⟨wo.heap.size, 0, none⟩ = some (.int .i64 px) ∧ w'.cell? ⟨wo.heap.size, 1, none⟩ = some (.int .i64 py) ∧ w'.cell? ⟨ba, offa + m * 2, none⟩ = some (.int .i64 nx) ∧ w'.cell? ⟨ba, offa + m * 2 + 1, none⟩ = some (.int .i64 ny)) ∧ w'.cell? ⟨wr.heap.size, 0, none⟩ = some (.int .i64 qx) ∧ w'.cell? ⟨wr.heap.size, 1, none⟩ = some (.int .i64 qy) :=
              fun w' h => ⟨HA.out w' (hmj.trans (More.un h)), box_new rfl h 0, box_new rfl h 1⟩
            by_cases ht : tn (px, py) (nx, ny) (qx, qy) < 0
            · have ht' : turnF (px, py) (nx, ny) (qx, qy) < 0 := by rw [HTN.out]; exact ht
              have HTT := Lib.hid ht; clear ht
              have hwk : IntKind.i64.wrap ((k : Int) + 1) = (k : Int) + 1 := IntWalk.i64_in _ (by omega)
              have hwz : (0 : Int) ≤ (k : Int) + 1 := by omega
              have hmt : ((k : Int) + 1).tmod (n : Int) = (m : Int) := by rw [Int.tmod_eq_emod_of_nonneg (by omega)]; exact emi
              have hmz : ¬ (n = 0) := by omega
              go_wp2_with fail
              go_region_held3 (fun w' => More (wr.alloc (.cells #[.int .i64 qx, .int .i64 qy] 30)) w') (first | exact More.refl _ | exact (Turns.more (by repeat (first | (with_reducible exact Turns.refl _ _) | (with_reducible apply Turns.drew) | (with_reducible apply Turns.drewN) | (with_reducible apply Turns.alloc) | (with_reducible refine Turns.via (by assumption) ?_))))) (first | (go_at_call 104; refine (spec_Turn _ _ _ _ _ _ _).mono ?_; rintro e w3 ⟨rfl, hb3⟩))
              clear hwk hmt hmz
              go_wp2_with fail
              go_roundw
              case rel => exact ⟨j + 1, true, by omega, by go_num, rfl, More.trans hmj (Turns.more (by repeat (first | (with_reducible exact Turns.refl _ _) | (with_reducible apply Turns.drew) | (with_reducible apply Turns.drewN) | (with_reducible apply Turns.alloc) | (with_reducible refine Turns.via (by assumption) ?_)))), Lib.hid (by rw [take_next HQ.out, List.all_append, ← HS.out]; simp [HT.out, HTT.out])⟩
              case measure => simp [intOf]; omega
            · have ht' : ¬ turnF (px, py) (nx, ny) (qx, qy) < 0 := by rw [HTN.out]; exact ht
              have HTT := Lib.hid ht; clear ht
              have hwk : IntKind.i64.wrap ((k : Int) + 1) = (k : Int) + 1 := IntWalk.i64_in _ (by omega)
              have hwz : (0 : Int) ≤ (k : Int) + 1 := by omega
              have hmt : ((k : Int) + 1).tmod (n : Int) = (m : Int) := by rw [Int.tmod_eq_emod_of_nonneg (by omega)]; exact emi
              have hmz : ¬ (n = 0) := by omega
              go_wp2_with fail
              go_region_held3 (fun w' => More (wr.alloc (.cells #[.int .i64 qx, .int .i64 qy] 30)) w') (first | exact More.refl _ | exact (Turns.more (by repeat (first | (with_reducible exact Turns.refl _ _) | (with_reducible apply Turns.drew) | (with_reducible apply Turns.drewN) | (with_reducible apply Turns.alloc) | (with_reducible refine Turns.via (by assumption) ?_))))) (first | (go_at_call 104; refine (spec_Turn _ _ _ _ _ _ _).mono ?_; rintro e w3 ⟨rfl, hb3⟩))
              clear hwk hmt hmz
              go_wp2_with fail
              go_roundw
              case rel => exact ⟨j + 1, false, by omega, by go_num, by first | rfl | rw [HTN.out, decide_eq_false (by have := HTT.out; omega)], More.trans hmj (Turns.more (by repeat (first | (with_reducible exact Turns.refl _ _) | (with_reducible apply Turns.drew) | (with_reducible apply Turns.drewN) | (with_reducible apply Turns.alloc) | (with_reducible refine Turns.via (by assumption) ?_)))), Lib.hid (by rw [take_next HQ.out, List.all_append, ← HS.out]; simp [HT.out]; have := HTT.out; omega)⟩
              case measure => simp [intOf]; omega
        · obtain rfl : j = n' := by omega
          have HSE : Hid (s = sepAt a b k) := Lib.hid (by rw [HS.out, List.take_of_length_le (by rw [← HN'.out]; exact Nat.le_refl _)]; rfl)
          cases s with
          | true =>
            go_wp2_with fail
            go_ret
            exact ⟨ret_int (by rw [PP.out]; exact (sepU_found (by rw [← HN.out]; exact hlt) HK.out HSE.out.symm).symm), HMw.out⟩
          | false =>
            go_wp2_with fail
            go_roundw
            case rel => exact ⟨k + 1, by omega, by go_num, HMw.out, Lib.hid (fun k' hk' => by
              rcases Nat.lt_succ_iff_lt_or_eq.1 hk' with h | rfl
              · exact HK.out k' h
              · exact HSE.out.symm)⟩
            case measure => simp [intOf]; omega
    · go_wp2_with fail
      go_ret
      obtain rfl : k = n := by omega
      exact ⟨ret_int (by rw [PP.out]; exact (sepU_none (fun i hi => HK.out i (by rw [HN.out]; exact hi))).symm), (Turns.more (by repeat (first | (with_reducible exact Turns.refl _ _) | (with_reducible apply Turns.drew) | (with_reducible apply Turns.drewN) | (with_reducible apply Turns.alloc) | (with_reducible refine Turns.via (by assumption) ?_))))⟩
set_option maxHeartbeats 1600000 in
theorem impl_sep11 {n : Nat} {px py : Int} (ba bi bn : Nat) (cx cy nx ny : Int) (i : Nat) (z1 : Option Addr) (z2 : Nat) (a : List QV) (w : World) (hn : a.length = n) (hv : tVecs.at w [.slice z1 n z2] a) (hi : i < n) (hx : a[i]? = some (px, py))
    (vp : isV (px, py) = true) (vn : isV (nx, ny) = true) (vc : isV (cx, cy) = true)
    (ga : ba < w.heap.size) (gi : bi < w.heap.size) (gn : bn < w.heap.size) (qa : w.cell? ⟨ba, 0, none⟩ = some (.slice z1 n z2)) (qi : w.cell? ⟨bi, 0, none⟩ = some (.int .i64 i)) (qn0 : w.cell? ⟨bn, 0, none⟩ = some (.int .i64 nx)) (qn1 : w.cell? ⟨bn, 1, none⟩ = some (.int .i64 ny)) (_ : n ≤ 1048576) :
    Calls Try.prog 202 #[.agg #[.int .i64 cx, .int .i64 cy], .pointer (some ⟨ba, 0, none⟩), .pointer (some ⟨bi, 0, none⟩), .pointer (some ⟨bn, 0, none⟩)] w fun e w' => e = .returned (.bool (!decide (tn (px, py) (nx, ny) (cx, cy) < 0))) ∧ More w w' := by
  obtain ⟨b, off, x, y, rfl, hb, hxx, -, -, c0, c1⟩ := vec_el hv (k := i) (by rw [hn]; exact hi)
  rw [hx] at hxx
  cases hxx
  have HVP := Lib.hid vp; have HVN := Lib.hid vn; have HVC := Lib.hid vc
  clear hv hn hx vp vn vc
  have hi0 : (0 : Int) ≤ (i : Int) := by omega
  have hi1 : (i : Int) < (n : Int) := by omega
  have HR : ∀ w', More (w.alloc (.cells #[.int .i64 cx, .int .i64 cy] 30)) w' → w'.cell? ⟨w.heap.size, 0, none⟩ = some (.int .i64 cx) ∧ w'.cell? ⟨w.heap.size, 1, none⟩ = some (.int .i64 cy) ∧ w'.cell? ⟨ba, 0, none⟩ = some (.slice (some ⟨b, off, none⟩) n z2) ∧ w'.cell? ⟨bi, 0, none⟩ = some (.int .i64 i) ∧ w'.cell? ⟨bn, 0, none⟩ = some (.int .i64 nx) ∧ w'.cell? ⟨bn, 1, none⟩ = some (.int .i64 ny) ∧ w'.cell? ⟨b, off + i * 2, none⟩ = some (.int .i64 px) ∧ w'.cell? ⟨b, off + i * 2 + 1, none⟩ = some (.int .i64 py) :=
    fun w' h => ⟨box_new rfl h 0, box_new rfl h 1, ((bcell (More.un h)).1 _ _ ga).trans qa, ((bcell (More.un h)).1 _ _ gi).trans qi, ((bcell (More.un h)).1 _ _ gn).trans qn0, ((bcell (More.un h)).1 _ _ gn).trans qn1, ((bcell (More.un h)).1 _ _ hb).trans c0, ((bcell (More.un h)).1 _ _ hb).trans c1⟩
  clear qa qi qn0 qn1 c0 c1
  by_cases ht : tn (px, py) (nx, ny) (cx, cy) < 0
  all_goals
    go_enter Try.func202, Try.ntmps202
    go_wp2_with fail
    go_region_held3 (fun w' => More (w.alloc (.cells #[.int .i64 cx, .int .i64 cy] 30)) w') (first | exact More.refl _ | exact (Turns.more (by repeat (first | (with_reducible exact Turns.refl _ _) | (with_reducible apply Turns.drew) | (with_reducible apply Turns.drewN) | (with_reducible apply Turns.alloc) | (with_reducible refine Turns.via (by assumption) ?_))))) (first | (go_at_call 131; refine (impl_turn _ _ _ _ _ _ _ HVP.out HVN.out HVC.out).mono ?_; rintro e w3 ⟨rfl, hb3⟩))
    go_wp2_with fail
    go_ret
    exact ⟨ret_bool (by rw [Bool.eq_iff_iff]; simp; try omega), (Turns.more (by repeat (first | (with_reducible exact Turns.refl _ _) | (with_reducible apply Turns.drew) | (with_reducible apply Turns.drewN) | (with_reducible apply Turns.alloc) | (with_reducible refine Turns.via (by assumption) ?_))))⟩
def notTn (p q c : QV) : Bool := !decide (tn p q c < 0)
set_option maxHeartbeats 1600000 in
theorem indexFunc_sep {n : Nat} {px py : Int} (ba bi bn : Nat) (v : Value) (l : List QV) (nx ny : Int) (i : Nat) (z1 : Option Addr) (z2 : Nat) (a : List QV) (w : World) (hvl : tVecs.at w [v] l) (hll : l.length ≤ 1048576) (hal : l.all isV = true) (hn : a.length = n) (hv : tVecs.at w [.slice z1 n z2] a) (hi : i < n) (hx : a[i]? = some (px, py))
    (vp : isV (px, py) = true) (vn : isV (nx, ny) = true)
    (ga : ba < w.heap.size) (gi : bi < w.heap.size) (gn : bn < w.heap.size) (qa : w.cell? ⟨ba, 0, none⟩ = some (.slice z1 n z2)) (qi : w.cell? ⟨bi, 0, none⟩ = some (.int .i64 i)) (qn0 : w.cell? ⟨bn, 0, none⟩ = some (.int .i64 nx)) (qn1 : w.cell? ⟨bn, 1, none⟩ = some (.int .i64 ny)) (hn2 : n ≤ 1048576) :
    Calls Try.prog 233 #[v, .func (.func 202) #[] #[.pointer (some ⟨ba, 0, none⟩), .pointer (some ⟨bi, 0, none⟩), .pointer (some ⟨bn, 0, none⟩)]] w fun e w' => e = .returned (.int .i64 (idxI (notTn (px, py) (nx, ny)) l)) ∧ More w w' := by
  obtain ⟨ao, cap, rfl⟩ := sl_len hvl
  have HV := Lib.hid hvl; have HA := Lib.hid hv; have HX := Lib.hid hx; have HALL := Lib.hid hal; have HVP := Lib.hid vp; have HVN := Lib.hid vn; have HAN := Lib.hid hn
  have Q : Hid (∀ W, More w W → (ba < W.heap.size ∧ bi < W.heap.size ∧ bn < W.heap.size) ∧ W.cell? ⟨ba, 0, none⟩ = some (.slice z1 n z2) ∧ W.cell? ⟨bi, 0, none⟩ = some (.int .i64 i) ∧ W.cell? ⟨bn, 0, none⟩ = some (.int .i64 nx) ∧ W.cell? ⟨bn, 1, none⟩ = some (.int .i64 ny)) :=
    Lib.hid (fun W h => ⟨⟨Nat.lt_of_lt_of_le ga h.size, Nat.lt_of_lt_of_le gi h.size, Nat.lt_of_lt_of_le gn h.size⟩, ((bcell h).1 _ _ ga).trans qa, ((bcell h).1 _ _ gi).trans qi, ((bcell h).1 _ _ gn).trans qn0, ((bcell h).1 _ _ gn).trans qn1⟩)
  clear hvl hv hx hal vp vn hn qa qi qn0 qn1 ga gi gn
  obtain ⟨N, hN⟩ : ∃ N, N = l.length := ⟨_, rfl⟩
  rw [← hN] at HV hll ⊢
  have HN := Lib.hid hN; clear hN
  go_enter Try.func233, Try.ntmps233
  go_wp2_with fail
  go_loopw [8] (fun i wr => ∃ k : Nat, k ≤ N ∧ i = .int .i64 k ∧ More w wr ∧ Hid (∀ (i : Nat) y, i < k → l[i]? = some y → notTn (px, py) (nx, ny) y = false)) (fun i _ => N - (intOf i).toNat)
  case atStart => exact ⟨0, Nat.zero_le _, rfl, More.refl _, Lib.hid (fun i y hi => by omega)⟩
  case round =>
    obtain ⟨k, hk, rfl, hm, HB⟩ := hrel
    by_cases hlt : k < N
    · obtain ⟨b, off, x, y, rfl, hblt, hxy, -, -, c0, c1⟩ := vec_el (Ty.at_more HV.out hm) (k := k) (by rw [← HN.out]; exact hlt)
      have HXY := Lib.hid hxy; clear hxy
      rcases Bool.eq_false_or_eq_true (notTn (px, py) (nx, ny) (x, y)) with hd | hd
      all_goals
        have HD := Lib.hid hd
        go_wp2_with fail
        refine (impl_sep11 (px := px) (py := py) ba bi bn x y nx ny i z1 z2 a _ HAN.out (Ty.at_more HA.out hm) hi HX.out HVP.out HVN.out (isV_at HALL.out HXY.out) (Q.out _ hm).1.1 (Q.out _ hm).1.2.1 (Q.out _ hm).1.2.2 (Q.out _ hm).2.1 (Q.out _ hm).2.2.1 (Q.out _ hm).2.2.2.1 (Q.out _ hm).2.2.2.2 hn2).mono ?_
        rintro e w1 ⟨rfl, hb1⟩
        rw [show (!decide (tn (px, py) (nx, ny) (x, y) < 0)) = notTn (px, py) (nx, ny) (x, y) from rfl, hd]
        go_wp2_with fail
      · go_ret
        exact ⟨ret_int (idxI_found HB.out HXY.out HD.out).symm, (Turns.more (by repeat (first | (with_reducible exact Turns.refl _ _) | (with_reducible apply Turns.drew) | (with_reducible apply Turns.drewN) | (with_reducible apply Turns.alloc) | (with_reducible refine Turns.via (by assumption) ?_))))⟩
      · go_roundw
        case rel => exact ⟨k + 1, by omega, by go_num, (Turns.more (by repeat (first | (with_reducible exact Turns.refl _ _) | (with_reducible apply Turns.drew) | (with_reducible apply Turns.drewN) | (with_reducible apply Turns.alloc) | (with_reducible refine Turns.via (by assumption) ?_)))), Lib.hid (fun i z hi hz => by
          rcases Nat.lt_succ_iff_lt_or_eq.1 hi with h | rfl
          · exact HB.out i z h hz
          · rw [HXY.out] at hz; cases hz; exact HD.out)⟩
        case measure => simp [intOf]; omega
    · go_wp2_with fail
      go_ret
      exact ⟨ret_int (idxI_none (fun i z hz => HB.out i z (by have := (List.getElem?_eq_some_iff.1 hz).1; have := HN.out; omega) hz)).symm, hm⟩
set_option maxHeartbeats 800000 in
theorem containsFunc_sep {n : Nat} {px py : Int} (ba bi bn : Nat) (v : Value) (l : List QV) (nx ny : Int) (i : Nat) (z1 : Option Addr) (z2 : Nat) (a : List QV) (w : World) (hvl : tVecs.at w [v] l) (hll : l.length ≤ 1048576) (hal : l.all isV = true) (hn : a.length = n) (hv : tVecs.at w [.slice z1 n z2] a) (hi : i < n) (hx : a[i]? = some (px, py))
    (vp : isV (px, py) = true) (vn : isV (nx, ny) = true)
    (ga : ba < w.heap.size) (gi : bi < w.heap.size) (gn : bn < w.heap.size) (qa : w.cell? ⟨ba, 0, none⟩ = some (.slice z1 n z2)) (qi : w.cell? ⟨bi, 0, none⟩ = some (.int .i64 i)) (qn0 : w.cell? ⟨bn, 0, none⟩ = some (.int .i64 nx)) (qn1 : w.cell? ⟨bn, 1, none⟩ = some (.int .i64 ny)) (hn2 : n ≤ 1048576) :
    Calls Try.prog 201 #[v, .func (.func 202) #[] #[.pointer (some ⟨ba, 0, none⟩), .pointer (some ⟨bi, 0, none⟩), .pointer (some ⟨bn, 0, none⟩)]] w fun e w' => e = .returned (.bool (l.any (notTn (px, py) (nx, ny)))) ∧ More w w' := by
  have C := Lib.hid (indexFunc_sep (px := px) (py := py) ba bi bn v l nx ny i z1 z2 a w hvl hll hal hn hv hi hx vp vn ga gi gn qa qi qn0 qn1 hn2)
  clear hvl hll hal hn hv hi hx vp vn ga gi gn qa qi qn0 qn1 hn2
  go_enter Try.func201, Try.ntmps201
  go_wp2_with (go_at_call 233; refine C.out.mono ?_; rintro e w1 ⟨rfl, hb1⟩)
  go_ret
  exact ⟨ret_bool idxI_nonneg, (Turns.more (by repeat (first | (with_reducible exact Turns.refl _ _) | (with_reducible apply Turns.drew) | (with_reducible apply Turns.drewN) | (with_reducible apply Turns.alloc) | (with_reducible refine Turns.via (by assumption) ?_))))⟩
theorem sepAt_any (a b : List QV) (i : Nat) (p q : QV) (hp : a[i]? = some p) (hq : a[(i + 1) % a.length]? = some q) : sepAt a b i = !b.any (notTn p q) := by
  unfold sepAt
  rw [List.not_any_eq_all_not]
  congr 1
  funext c
  unfold tnOk notTn
  rw [getD_of hp, getD_of hq, Bool.not_not]
set_option maxHeartbeats 1600000 in
theorem impl_sep1 {n : Nat} (ba bb : Nat) (i : Nat) (z1 : Option Addr) (z2 : Nat) (vb : Value) (a b : List QV) (w : World) (hn : a.length = n) (hv : tVecs.at w [.slice z1 n z2] a) (hvb : tVecs.at w [vb] b) (hbl : b.length ≤ 1048576) (va : a.all isV = true) (vbb : b.all isV = true) (hi : i < n)
    (ga : ba < w.heap.size) (gb : bb < w.heap.size) (qa : w.cell? ⟨ba, 0, none⟩ = some (.slice z1 n z2)) (qb : w.cell? ⟨bb, 0, none⟩ = some vb) (hn2 : n ≤ 1048576) :
    Calls Try.prog 200 #[.int .i64 i, .pointer (some ⟨ba, 0, none⟩), .pointer (some ⟨bb, 0, none⟩)] w fun e w' => e = .returned (.bool (sepAt a b i)) ∧ More w w' := by
  obtain ⟨z3, z4, rfl⟩ := sl_len hvb
  obtain ⟨m, em⟩ : ∃ m, m = (i + 1) % n := ⟨_, rfl⟩
  have hmlt : m < n := by rw [em]; exact Nat.mod_lt _ (by omega)
  obtain ⟨bA, off, x, y, rfl, hb, hxx, -, -, c0, c1⟩ := vec_el hv (k := m) (by rw [hn]; exact hmlt)
  obtain ⟨⟨px, py⟩, hp⟩ : ∃ p, a[i]? = some p := ⟨_, List.getElem?_eq_getElem (by omega)⟩
  have HSA : Hid (sepAt a b i = !b.any (notTn (px, py) (x, y))) := Lib.hid (sepAt_any a b i _ _ hp (by rw [hn, ← em]; exact hxx))
  have HV := Lib.hid hv; have HVB := Lib.hid hvb; have HP := Lib.hid hp; have HXX := Lib.hid hxx; have HVA := Lib.hid va; have HVBB := Lib.hid vbb; have HAN := Lib.hid hn
  have emi : ((i : Int) + 1) % (n : Int) = (m : Int) := by rw [em]; simp
  have mi0 : (0 : Int) ≤ (m : Int) := by omega
  have mi1 : (m : Int) < (n : Int) := by omega
  have nba : ba ≠ w.heap.size := by omega
  have nbb : bb ≠ w.heap.size := by omega
  clear hv hvb hp hxx va vbb hn em
  have HB : Hid (∀ W, More ((w.alloc (.cells #[.int .i64 i] 3)).alloc (.cells #[.int .i64 x, .int .i64 y] 30)) W → ba < W.heap.size ∧ w.heap.size < W.heap.size ∧ w.heap.size + 1 < W.heap.size ∧ W.cell? ⟨ba, 0, none⟩ = some (.slice (some ⟨bA, off, none⟩) n z2) ∧ W.cell? ⟨w.heap.size, 0, none⟩ = some (.int .i64 i) ∧ W.cell? ⟨w.heap.size + 1, 0, none⟩ = some (.int .i64 x) ∧ W.cell? ⟨w.heap.size + 1, 1, none⟩ = some (.int .i64 y)) :=
    Lib.hid (fun W h => by
      have hs := h.size
      simp at hs
      exact ⟨by omega, by omega, by omega, ((bcell (More.un (More.un h))).1 _ _ ga).trans qa, box_new rfl (More.un h) 0, box_new (by simp) h 0, box_new (by simp) h 1⟩)
  have HR : ∀ w', More (w.alloc (.cells #[.int .i64 i] 3)) w' → w'.cell? ⟨w.heap.size, 0, none⟩ = some (.int .i64 i) ∧ w'.cell? ⟨ba, 0, none⟩ = some (.slice (some ⟨bA, off, none⟩) n z2) ∧ w'.cell? ⟨bA, off + m * 2, none⟩ = some (.int .i64 x) ∧ w'.cell? ⟨bA, off + m * 2 + 1, none⟩ = some (.int .i64 y) :=
    fun w' h => ⟨box_new rfl h 0, ((bcell (More.un h)).1 _ _ ga).trans qa, ((bcell (More.un h)).1 _ _ hb).trans c0, ((bcell (More.un h)).1 _ _ hb).trans c1⟩
  have hwk : IntKind.i64.wrap ((i : Int) + 1) = (i : Int) + 1 := IntWalk.i64_in _ (by omega)
  have hwz : (0 : Int) ≤ (i : Int) + 1 := by omega
  have hmt : ((i : Int) + 1).tmod (n : Int) = (m : Int) := by rw [Int.tmod_eq_emod_of_nonneg (by omega)]; exact emi
  have hmz : ¬ (n = 0) := by omega
  rw [HSA.out]
  go_enter Try.func200, Try.ntmps200
  go_wp2_with fail
  go_region_held3 (fun w' => More (w.alloc (.cells #[.int .i64 i] 3)) w') (first | exact More.refl _ | exact (Turns.more (by repeat (first | (with_reducible exact Turns.refl _ _) | (with_reducible apply Turns.drew) | (with_reducible apply Turns.drewN) | (with_reducible apply Turns.alloc) | (with_reducible refine Turns.setCellR ?_ (by simp <;> omega) _) | (with_reducible refine Turns.via (by assumption) ?_))))) (fail)
  all_goals
    clear hwk hmt hmz
    go_wp2_with fail
    refine (containsFunc_sep (px := px) (py := py) ba w.heap.size (w.heap.size + 1) _ b x y i (some ⟨bA, off, none⟩) z2 a _ (Ty.at_more HVB.out (Turns.more (by repeat (first | (with_reducible exact Turns.refl _ _) | (with_reducible apply Turns.drew) | (with_reducible apply Turns.drewN) | (with_reducible apply Turns.alloc) | (with_reducible refine Turns.via (by assumption) ?_))))) hbl HVBB.out HAN.out (Ty.at_more HV.out (Turns.more (by repeat (first | (with_reducible exact Turns.refl _ _) | (with_reducible apply Turns.drew) | (with_reducible apply Turns.drewN) | (with_reducible apply Turns.alloc) | (with_reducible refine Turns.via (by assumption) ?_))))) hi HP.out (isV_at HVA.out HP.out) (isV_at HVA.out HXX.out) (HB.out _ (Turns.more (by repeat (first | (with_reducible exact Turns.refl _ _) | (with_reducible apply Turns.drew) | (with_reducible apply Turns.drewN) | (with_reducible apply Turns.alloc) | (with_reducible refine Turns.via (by assumption) ?_))))).1 (HB.out _ (Turns.more (by repeat (first | (with_reducible exact Turns.refl _ _) | (with_reducible apply Turns.drew) | (with_reducible apply Turns.drewN) | (with_reducible apply Turns.alloc) | (with_reducible refine Turns.via (by assumption) ?_))))).2.1 (HB.out _ (Turns.more (by repeat (first | (with_reducible exact Turns.refl _ _) | (with_reducible apply Turns.drew) | (with_reducible apply Turns.drewN) | (with_reducible apply Turns.alloc) | (with_reducible refine Turns.via (by assumption) ?_))))).2.2.1 (HB.out _ (Turns.more (by repeat (first | (with_reducible exact Turns.refl _ _) | (with_reducible apply Turns.drew) | (with_reducible apply Turns.drewN) | (with_reducible apply Turns.alloc) | (with_reducible refine Turns.via (by assumption) ?_))))).2.2.2.1 (HB.out _ (Turns.more (by repeat (first | (with_reducible exact Turns.refl _ _) | (with_reducible apply Turns.drew) | (with_reducible apply Turns.drewN) | (with_reducible apply Turns.alloc) | (with_reducible refine Turns.via (by assumption) ?_))))).2.2.2.2.1 (HB.out _ (Turns.more (by repeat (first | (with_reducible exact Turns.refl _ _) | (with_reducible apply Turns.drew) | (with_reducible apply Turns.drewN) | (with_reducible apply Turns.alloc) | (with_reducible refine Turns.via (by assumption) ?_))))).2.2.2.2.2.1 (HB.out _ (Turns.more (by repeat (first | (with_reducible exact Turns.refl _ _) | (with_reducible apply Turns.drew) | (with_reducible apply Turns.drewN) | (with_reducible apply Turns.alloc) | (with_reducible refine Turns.via (by assumption) ?_))))).2.2.2.2.2.2 hn2).mono ?_
    rintro e w1 ⟨rfl, hb1⟩
    go_wp2_with fail
    go_ret
    exact ⟨rfl, (Turns.more (by repeat (first | (with_reducible exact Turns.refl _ _) | (with_reducible apply Turns.drew) | (with_reducible apply Turns.drewN) | (with_reducible apply Turns.alloc) | (with_reducible refine Turns.via (by assumption) ?_))))⟩
set_option maxHeartbeats 1600000 in
theorem indexFunc_sep1 {n : Nat} (ba bb : Nat) (v : Value) (z1 : Option Addr) (z2 : Nat) (vb : Value) (a b : List QV) (w : World) (hvl : tInts.at w [v] (mk1 n 0)) (hn : a.length = n) (hv : tVecs.at w [.slice z1 n z2] a) (hvb : tVecs.at w [vb] b) (hbl : b.length ≤ 1048576) (va : a.all isV = true) (vbb : b.all isV = true)
    (ga : ba < w.heap.size) (gb : bb < w.heap.size) (qa : w.cell? ⟨ba, 0, none⟩ = some (.slice z1 n z2)) (qb : w.cell? ⟨bb, 0, none⟩ = some vb) (hn2 : n ≤ 1048576) :
    Calls Try.prog 198 #[v, .func (.func 200) #[] #[.pointer (some ⟨ba, 0, none⟩), .pointer (some ⟨bb, 0, none⟩)]] w fun e w' => e = .returned (.int .i64 (sepU a b)) ∧ More w w' := by
  obtain ⟨ao, cap, rfl⟩ := sl_len hvl
  rw [mk1_len] at hvl ⊢
  have HV := Lib.hid hvl; have HA := Lib.hid hv; have HVB := Lib.hid hvb; have HVA := Lib.hid va; have HVBB := Lib.hid vbb; have HAN := Lib.hid hn
  have Q : Hid (∀ W, More w W → (ba < W.heap.size ∧ bb < W.heap.size) ∧ W.cell? ⟨ba, 0, none⟩ = some (.slice z1 n z2) ∧ W.cell? ⟨bb, 0, none⟩ = some vb) :=
    Lib.hid (fun W h => ⟨⟨Nat.lt_of_lt_of_le ga h.size, Nat.lt_of_lt_of_le gb h.size⟩, ((bcell h).1 _ _ ga).trans qa, ((bcell h).1 _ _ gb).trans qb⟩)
  clear hvl hv hvb va vbb hn qa qb ga gb
  go_enter Try.func198, Try.ntmps198
  go_wp2_with fail
  go_loopw [8] (fun i wr => ∃ k : Nat, k ≤ n ∧ i = .int .i64 k ∧ More w wr ∧ Hid (∀ i, i < k → sepAt a b i = false)) (fun i _ => n - (intOf i).toNat)
  case atStart => exact ⟨0, Nat.zero_le _, rfl, More.refl _, Lib.hid (fun i hi => by omega)⟩
  case round =>
    obtain ⟨k, hk, rfl, hm, HB⟩ := hrel
    by_cases hlt : k < n
    · obtain ⟨b_, off, x, rfl, hblt, hxy, -, c0⟩ := int_el (Ty.at_more HV.out hm) (k := k) (by rw [mk1_len]; exact hlt)
      obtain rfl : x = (k : Int) := by rw [mk1_get hlt] at hxy; cases hxy; simp
      clear hxy
      rcases Bool.eq_false_or_eq_true (sepAt a b k) with hd | hd
      all_goals
        have HD := Lib.hid hd
        go_wp2_with fail
        refine (impl_sep1 ba bb k z1 z2 vb a b _ HAN.out (Ty.at_more HA.out hm) (Ty.at_more HVB.out hm) hbl HVA.out HVBB.out hlt (Q.out _ hm).1.1 (Q.out _ hm).1.2 (Q.out _ hm).2.1 (Q.out _ hm).2.2 hn2).mono ?_
        rintro e w1 ⟨rfl, hb1⟩
        rw [hd]
        go_wp2_with fail
      · go_ret
        exact ⟨ret_int (sepU_found (by rw [HAN.out]; exact hlt) HB.out HD.out).symm, (Turns.more (by repeat (first | (with_reducible exact Turns.refl _ _) | (with_reducible apply Turns.drew) | (with_reducible apply Turns.drewN) | (with_reducible apply Turns.alloc) | (with_reducible refine Turns.via (by assumption) ?_))))⟩
      · go_roundw
        case rel => exact ⟨k + 1, by omega, by go_num, (Turns.more (by repeat (first | (with_reducible exact Turns.refl _ _) | (with_reducible apply Turns.drew) | (with_reducible apply Turns.drewN) | (with_reducible apply Turns.alloc) | (with_reducible refine Turns.via (by assumption) ?_)))), Lib.hid (fun i hi => by
          rcases Nat.lt_succ_iff_lt_or_eq.1 hi with h | rfl
          · exact HB.out i h
          · exact HD.out)⟩
        case measure => simp [intOf]; omega
    · go_wp2_with fail
      go_ret
      exact ⟨ret_int (sepU_none (fun i hi => HB.out i (by have := HAN.out; omega))).symm, hm⟩
theorem infoInt_ : (Try.prog.info? 3).map (fun i => (i.zero, i.size, i.bytes)) = some (some (.int .i64 0), 1, 8) := by kernel_rfl
set_option maxHeartbeats 1600000 in
theorem impl_edgeIndices (v : Value) (a : List QV) (w : World) (hv : tVecs.at w [v] a) (hl : a.length ≤ 1048576) :
    Calls Try.prog 199 #[v] w fun e w' => ∃ v', e = .returned v' ∧ More w w' ∧ tInts.fresh w.heap.size w' [v'] (mk1 a.length 0) := by
  obtain ⟨ao, cap, rfl⟩ := sl_len hv
  clear hv
  obtain ⟨n, hn⟩ : ∃ n, n = a.length := ⟨_, rfl⟩
  rw [← hn] at hl ⊢
  clear hn
  obtain ⟨i0, hi, hz0, hz1, hz2⟩ := info_parts infoInt_
  go_enter Try.func199, Try.ntmps199
  go_wp2_with fail
  go_loopw [3, 8] (fun v i wr => ∃ k : Nat, k ≤ n ∧ i = .int .i64 k ∧ More w wr ∧ Hid (ListOwn tInt w.heap.size 3 wr v ((mk1 n 0).take k))) (fun _ i _ => n - (intOf i).toNat)
  case atStart => exact ⟨0, Nat.zero_le _, rfl, (Turns.more (by repeat (first | (with_reducible exact Turns.refl _ _) | (with_reducible apply Turns.drew) | (with_reducible apply Turns.drewN) | (with_reducible apply Turns.alloc) | (with_reducible refine Turns.via (by assumption) ?_)))), Lib.hid (ListOwn.lit (Nat.le_refl _))⟩
  case round =>
    obtain ⟨k, hk, rfl, hm, HL⟩ := hrel
    by_cases hlt : k < n
    · have hlen : ((mk1 n 0).take k).length ≤ 2097152 := by rw [List.length_take, mk1_len]; omega
      have HLen := Lib.hid hlen; clear hlen
      go_wp2_with (first | (at_builtin; refine wpList_pushOwn tInt wr rfl _ _ 37 rfl w.heap.size 3 i0 (.int .i64 0) 8 Try.underlying37 hi hz0 hz1 hz2 rfl (by decide) rfl HL.out (Turns.more (by repeat (first | (with_reducible exact Turns.refl _ _) | (with_reducible apply Turns.drew) | (with_reducible apply Turns.drewN) | (with_reducible apply Turns.alloc) | (with_reducible refine Turns.via (by assumption) ?_)))) rfl (by simp) (int_fresh (n := (k : Int)) (In64.small (by omega))) HLen (by decide) (Lib.hid hm.size) ?_))
      intro v' w2 hl2 hmw
      go_wp2_with fail
      go_roundw
      case rel => exact ⟨k + 1, by omega, by go_num, hmw _ rfl (Turns.more (by repeat (first | (with_reducible exact Turns.refl _ _) | (with_reducible apply Turns.drew) | (with_reducible apply Turns.drewN) | (with_reducible apply Turns.alloc) | (with_reducible refine Turns.via (by assumption) ?_)))), Lib.hid (by rw [take_next (x := (k : Int)) (by rw [mk1_get hlt]; simp)]; exact hl2)⟩
      case measure => simp [intOf]; omega
    · go_wp2_with fail
      go_ret
      obtain rfl : k = n := by omega
      exact ⟨_, rfl, hm, by have h1 := HL.out.fresh; rwa [List.take_of_length_le (by rw [mk1_len]; exact Nat.le_refl _)] at h1⟩
set_option maxHeartbeats 1600000 in
theorem impl_separating (v v' : Value) (a b : List QV) (w : World) (hv : tVecs.at w [v] a) (hv' : tVecs.at w [v'] b) (hl : a.length ≤ 1048576) (hm : b.length ≤ 1048576) (va : a.all isV = true) (vb : b.all isV = true) :
    Calls Try.prog 106 #[v, v'] w fun e w' => e = .returned (.int .i64 (sepU a b)) ∧ More w w' := by
  have HV0 := Lib.hid hv; have HV0' := Lib.hid hv'
  obtain ⟨ao, cap, rfl⟩ := sl_len hv
  obtain ⟨ao', cap', rfl⟩ := sl_len hv'
  have HVA := Lib.hid va; have HVB := Lib.hid vb
  have HL := Lib.hid hl; have HM := Lib.hid hm
  clear hv hv' va vb hl hm
  have HB0 : ∀ w', More ((w.alloc (.cells #[.slice ao a.length cap] 25)).alloc (.cells #[.slice ao' b.length cap'] 25)) w' → w'.cell? ⟨w.heap.size, 0, none⟩ = some (.slice ao a.length cap) ∧ w'.cell? ⟨w.heap.size + 1, 0, none⟩ = some (.slice ao' b.length cap') ∧ w.heap.size + 1 < w'.heap.size :=
    fun w' h => ⟨box_new rfl (More.un h) 0, box_new (by simp) h 0, by have := h.size; simp at this; omega⟩
  have HB := Lib.hid HB0; clear HB0
  go_enter Try.func106, Try.ntmps106
  go_wp2_with fail
  refine (impl_edgeIndices _ a _ (Ty.at_more HV0.out (Turns.more (by repeat (first | (with_reducible exact Turns.refl _ _) | (with_reducible apply Turns.drew) | (with_reducible apply Turns.drewN) | (with_reducible apply Turns.alloc) | (with_reducible refine Turns.via (by assumption) ?_))))) HL.out).mono ?_
  rintro e w1 ⟨x, rfl, hb1, F1⟩
  have HF1 := Lib.hid F1; clear F1
  have q := HB.out _ hb1
  go_wp2_with fail
  refine (indexFunc_sep1 w.heap.size (w.heap.size + 1) _ ao cap _ a b _ (Ty.fresh_at HF1.out) rfl (Ty.at_more HV0.out (Turns.more (by repeat (first | (with_reducible exact Turns.refl _ _) | (with_reducible apply Turns.drew) | (with_reducible apply Turns.drewN) | (with_reducible apply Turns.alloc) | (with_reducible refine Turns.via (by assumption) ?_))))) (Ty.at_more HV0'.out (Turns.more (by repeat (first | (with_reducible exact Turns.refl _ _) | (with_reducible apply Turns.drew) | (with_reducible apply Turns.drewN) | (with_reducible apply Turns.alloc) | (with_reducible refine Turns.via (by assumption) ?_))))) HM.out HVA.out HVB.out (by omega) (by omega) q.1 q.2.1 HL.out).mono ?_
  rintro e w2 ⟨rfl, hb2⟩
  go_wp2_with fail
  go_ret
  exact ⟨rfl, (Turns.more (by repeat (first | (with_reducible exact Turns.refl _ _) | (with_reducible apply Turns.drew) | (with_reducible apply Turns.drewN) | (with_reducible apply Turns.alloc) | (with_reducible refine Turns.via (by assumption) ?_))))⟩
set_option maxHeartbeats 1600000 in
theorem impl_SeparatingEdge (v v' : Value) (a b : List QV) (w : World) (hv : tVecs.at w [v] a) (hv' : tVecs.at w [v'] b) (hl : a.length ≤ 1048576) (hm : b.length ≤ 1048576) :
    Calls Try.prog 21 #[v, v'] w fun e w' => e = .returned (.int .i64 (sepF a b)) ∧ More w w' := by
  have HV0 := Lib.hid hv; have HV0' := Lib.hid hv'
  have HL := Lib.hid hl; have HM := Lib.hid hm
  clear hv hv' hl hm
  rcases Bool.eq_false_or_eq_true (isPoly a) with pa | pa
  rotate_left
  · have PA := Lib.hid pa
    go_enter Try.func21, Try.ntmps21
    go_wp2_with fail
    refine (impl_IsPolygon _ a _ HV0.out HL.out).mono ?_; rintro e w1 ⟨rfl, hb1⟩
    go_wp2_with fail
    go_ret
    exact ⟨ret_int (by rw [sepF, PA.out]; rfl), (Turns.more (by repeat (first | (with_reducible exact Turns.refl _ _) | (with_reducible apply Turns.drew) | (with_reducible apply Turns.drewN) | (with_reducible apply Turns.alloc) | (with_reducible refine Turns.via (by assumption) ?_))))⟩
  rcases Bool.eq_false_or_eq_true (isPoly b) with pb | pb
  rotate_left
  · have PB := Lib.hid pb
    go_enter Try.func21, Try.ntmps21
    go_wp2_with fail
    refine (impl_IsPolygon _ a _ HV0.out HL.out).mono ?_; rintro e w1 ⟨rfl, hb1⟩
    go_wp2_with fail
    refine (impl_IsPolygon _ b _ (Ty.at_more HV0'.out (Turns.more (by repeat (first | (with_reducible exact Turns.refl _ _) | (with_reducible apply Turns.drew) | (with_reducible apply Turns.drewN) | (with_reducible apply Turns.alloc) | (with_reducible refine Turns.via (by assumption) ?_))))) HM.out).mono ?_; rintro e w2 ⟨rfl, hb2⟩
    go_wp2_with fail
    go_ret
    exact ⟨ret_int (by rw [sepF, PB.out]; simp), (Turns.more (by repeat (first | (with_reducible exact Turns.refl _ _) | (with_reducible apply Turns.drew) | (with_reducible apply Turns.drewN) | (with_reducible apply Turns.alloc) | (with_reducible refine Turns.via (by assumption) ?_))))⟩
  have PP : Hid (sepF a b = sepU a b) := Lib.hid (by rw [sepF, pa, pb]; rfl)
  have VA := Lib.hid (poly_isV' pa); have VB := Lib.hid (poly_isV' pb)
  go_enter Try.func21, Try.ntmps21
  go_wp2_with fail
  refine (impl_IsPolygon _ a _ HV0.out HL.out).mono ?_; rintro e w1 ⟨rfl, hb1⟩
  go_wp2_with fail
  refine (impl_IsPolygon _ b _ (Ty.at_more HV0'.out (Turns.more (by repeat (first | (with_reducible exact Turns.refl _ _) | (with_reducible apply Turns.drew) | (with_reducible apply Turns.drewN) | (with_reducible apply Turns.alloc) | (with_reducible refine Turns.via (by assumption) ?_))))) HM.out).mono ?_; rintro e w2 ⟨rfl, hb2⟩
  go_wp2_with fail
  refine (impl_separating _ _ a b _ (Ty.at_more HV0.out (Turns.more (by repeat (first | (with_reducible exact Turns.refl _ _) | (with_reducible apply Turns.drew) | (with_reducible apply Turns.drewN) | (with_reducible apply Turns.alloc) | (with_reducible refine Turns.via (by assumption) ?_))))) (Ty.at_more HV0'.out (Turns.more (by repeat (first | (with_reducible exact Turns.refl _ _) | (with_reducible apply Turns.drew) | (with_reducible apply Turns.drewN) | (with_reducible apply Turns.alloc) | (with_reducible refine Turns.via (by assumption) ?_))))) HL.out HM.out VA.out VB.out).mono ?_; rintro e w3 ⟨rfl, hb3⟩
  go_wp2_with fail
  go_ret
  exact ⟨ret_int PP.out.symm, (Turns.more (by repeat (first | (with_reducible exact Turns.refl _ _) | (with_reducible apply Turns.drew) | (with_reducible apply Turns.drewN) | (with_reducible apply Turns.alloc) | (with_reducible refine Turns.via (by assumption) ?_))))⟩
end Go.Proofs.Ytejhibpaknjhnaa
