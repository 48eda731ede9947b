/- MoveToOrigin: the reference's and the program's. -/
import Derived.Test.YtlidkddicnfmaaaWdi
namespace Go.Proofs.Ytlidkddicnfmaaa
open Go.RowKit
theorem ListOwn.litN {α : Type} {S : Ty α} {N : Nat} {e : TypeId} {w : World} (hN : w.heap.size = N) : ListOwn S N e (w.alloc (.cells #[] e)) (.slice (some ⟨N, 0, none⟩) 0 0) [] := by
  subst hN
  exact ListOwn.lit (Nat.le_refl _)
theorem movG_yes {l : List QV} {v : QV} (h : (l.map (addV v)).all isV = true) : movG l v = l.map (addV v) := by unfold movG; rw [if_pos h]
theorem movG_no {l : List QV} {v : QV} (h : (l.map (addV v)).all isV = false) : movG l v = [] := by unfold movG; rw [h]; rfl
theorem movO_no {l : List QV} (h : isPoly l = false) : movO l = [] := by unfold movO; rw [h]; rfl
theorem movO_yes {l : List QV} {a b : Int} (h : isPoly l = true) (hl : loK l l.length = (a, b)) : movO l = movG l (-a, -b) := by unfold movO; rw [if_pos h, hl]; rfl
set_option maxRecDepth 8000 in
set_option maxHeartbeats 3200000 in
theorem impl_moved (v : Value) (l : List QV) (vx vy : Int) (w : World) (hv : tVecs.at w [v] l) (hl : l.length ≤ 1048576) (ha : l.all isV = true) (hvv : isV (vx, vy) = true) :
    Calls Try.prog 64 #[v, .agg #[.int .i64 vx, .int .i64 vy]] w fun e w' => ∃ v', e = .returned v' ∧ More w w' ∧ tVecs.fresh w.heap.size w' [v'] (l.map (addV (vx, vy))) := by
  obtain ⟨ao, cap, rfl⟩ := sl_len hv
  have HV := Lib.hid hv; clear hv
  obtain ⟨n, hn⟩ : ∃ n, n = l.length := ⟨_, rfl⟩
  rw [← hn] at HV hl ⊢
  have HN := Lib.hid hn; clear hn
  have HA := Lib.hid ha; clear ha
  have hvb := hvv
  obtain ⟨⟨vx0, vx1⟩, vy0, vy1⟩ := isV_iff.1 hvb
  clear hvb
  dsimp only at vx0 vx1 vy0 vy1
  obtain ⟨i0, hi, hz0, hz1, hz2⟩ := info_parts infoVec
  have HX : More (w.alloc (.cells #[.int .i64 vx, .int .i64 vy] 25)) (w.alloc (.cells #[.int .i64 vx, .int .i64 vy] 25)) := More.refl _
  have HB : ∀ w', More (w.alloc (.cells #[.int .i64 vx, .int .i64 vy] 25)) w' → w'.cell? ⟨w.heap.size, 0, none⟩ = some (.int .i64 vx) ∧ w'.cell? ⟨w.heap.size, 1, none⟩ = some (.int .i64 vy) ∧ (∀ j, w'.frozen? ⟨w.heap.size, j, none⟩ = false) := fun w' h => ⟨box_new (by simp) h 0, box_new (by simp) h 1, fun j => box_free (by simp) h j⟩
  go_enter Try.func64, Try.ntmps64
  go_wp2_with fail
  go_loopw [5, 11] (fun v i wr => ∃ k : Nat, k ≤ n ∧ i = .int .i64 k ∧ More (w.alloc (.cells #[.int .i64 vx, .int .i64 vy] 25)) wr ∧ Hid (ListOwn tVec (w.heap.size + 1) 25 wr v ((l.map (addV (vx, vy))).take k))) (fun _ i _ => n - (intOf i).toNat)
  case atStart => exact ⟨0, Nat.zero_le _, rfl, mC, Lib.hid (ListOwn.litN (w := (w.alloc (.cells #[.int .i64 vx, .int .i64 vy] 25))) (by simp))⟩
  case round =>
    obtain ⟨k, hk, rfl, hm, HL⟩ := hrel
    have HMW := Lib.hid (More.trans (show More w (w.alloc (.cells #[.int .i64 vx, .int .i64 vy] 25)) from mC) hm)
    by_cases hlt : k < n
    · skip
      obtain ⟨b, off, x, y, rfl, hblt, hx, ox, oy, c0, c1⟩ := vec_el (Ty.at_more HV.out HMW.out) (k := k) (by rw [← HN.out]; exact hlt)
      have hxy := List.all_eq_true.1 HA.out (x, y) (List.mem_of_getElem? hx)
      have hxz := hxy
      obtain ⟨⟨bx0, bx1⟩, by0, by1⟩ := isV_iff.1 hxz
      clear hxz
      dsimp only at bx0 bx1 by0 by1
      have HX := Lib.hid hx; clear hx
      have OX := Lib.hid ox; have OY := Lib.hid oy; clear ox oy
      have hlen : ((l.map (addV (vx, vy))).take k).length ≤ 2097152 := by rw [List.length_take, List.length_map, ← HN.out]; omega
      have HLen := Lib.hid hlen; clear hlen
      have m0 : More wr (wr.alloc (.cells #[.int .i64 x, .int .i64 y] 25)) := Turns.more ((Turns.refl [] _).alloc _)
      have N0 := fun (w' : World) (h : More (wr.alloc (.cells #[.int .i64 x, .int .i64 y] 25)) w') => (VBox.new rfl h : VBox w' wr.heap.size (.int .i64 x) (.int .i64 y))
      obtain ⟨z0a, z0b, z0f, z0l⟩ := N0 _ (More.refl _)
      have HBq := HB _ (hm.trans m0)
      go_wp2_with (first | (at_builtin; refine wpList_pushOwn tVec wr rfl _ _ 28 rfl (w.heap.size + 1) 25 i0 (.agg #[.int .i64 0, .int .i64 0]) 16 Try.underlying28 hi hz0 hz1 hz2 rfl (by decide) rfl HL.out mC rfl (by simp) (vec_fresh (x := x + vx) (y := y + vy) (In64.small (by omega)) (In64.small (by omega))) HLen (by decide) (Lib.hid (show w.heap.size + 1 ≤ wr.heap.size by have := hm.size; simp at this; omega)) ?_))
      intro v' w2 hl2 hmw2
      go_wp2_with fail
      go_roundw
      case rel => exact ⟨k + 1, by omega, by go_num, hmw2 (w.alloc (.cells #[.int .i64 vx, .int .i64 vy] 25)) (by simp) mC, Lib.hid (by rw [take_map_next HX.out]; exact hl2)⟩
      case measure => simp [intOf]; omega
    · go_wp2_with fail
      go_ret
      obtain rfl : k = n := by omega
      exact ⟨_, rfl, HMW.out, by
        have h1 := HL.out.fresh
        rw [List.take_of_length_le (by rw [List.length_map, HN.out]; exact Nat.le_refl _)] at h1
        exact Ty.fresh_mono h1 (by omega)⟩
set_option maxRecDepth 8000 in
set_option maxHeartbeats 3200000 in
theorem spec_MovePolygon (v : Value) (l : List QV) (vx vy : Int) (w : World) (hv : tVecs.at w [v] l) (hl : l.length ≤ 1048576) (ha : l.all isV = true) (hvv : isV (vx, vy) = true) :
    Calls Try.prog 63 #[v, .agg #[.int .i64 vx, .int .i64 vy]] w fun e w' => ∃ v', e = .returned v' ∧ More w w' ∧ tVecs.fresh w.heap.size w' [v'] (movG l (vx, vy)) := by
  obtain ⟨ao, cap, rfl⟩ := sl_len hv
  have HV := Lib.hid hv; clear hv
  obtain ⟨n, hn⟩ : ∃ n, n = l.length := ⟨_, rfl⟩
  rw [← hn] at HV hl ⊢
  have HN := Lib.hid hn; clear hn
  have HA := Lib.hid ha; clear ha
  have hvb := hvv
  obtain ⟨⟨vx0, vx1⟩, vy0, vy1⟩ := isV_iff.1 hvb
  clear hvb
  dsimp only at vx0 vx1 vy0 vy1
  obtain ⟨i0, hi, hz0, hz1, hz2⟩ := info_parts infoVec
  have HX : More (w.alloc (.cells #[.int .i64 vx, .int .i64 vy] 25)) (w.alloc (.cells #[.int .i64 vx, .int .i64 vy] 25)) := More.refl _
  have HB : ∀ w', More (w.alloc (.cells #[.int .i64 vx, .int .i64 vy] 25)) w' → w'.cell? ⟨w.heap.size, 0, none⟩ = some (.int .i64 vx) ∧ w'.cell? ⟨w.heap.size, 1, none⟩ = some (.int .i64 vy) ∧ (∀ j, w'.frozen? ⟨w.heap.size, j, none⟩ = false) := fun w' h => ⟨box_new (by simp) h 0, box_new (by simp) h 1, fun j => box_free (by simp) h j⟩
  go_enter Try.func63, Try.ntmps63
  go_wp2_with (go_at_call 132; refine (spec_IsValidVec _ _ _).mono ?_; rintro e w1 ⟨rfl, hb1⟩; have HB1 := HB w1 mC; have hsz1 := hb1.size)
  go_loopw [5, 14] (fun v i wr => ∃ k : Nat, k ≤ n ∧ i = .int .i64 k ∧ More (w.alloc (.cells #[.int .i64 vx, .int .i64 vy] 25)) wr ∧ Hid (ListOwn tVec (w.heap.size + 1) 25 wr v ((l.map (addV (vx, vy))).take k)) ∧ Hid (((l.map (addV (vx, vy))).take k).all isV = true)) (fun _ i _ => n - (intOf i).toNat)
  case atStart => exact ⟨0, Nat.zero_le _, rfl, mC, Lib.hid (ListOwn.more (ListOwn.litN (w := (w.alloc (.cells #[.int .i64 vx, .int .i64 vy] 25))) (by simp)) hb1), Lib.hid rfl⟩
  case round =>
    obtain ⟨k, hk, rfl, hm, HL, HQ⟩ := hrel
    have HMW := Lib.hid (More.trans (show More w (w.alloc (.cells #[.int .i64 vx, .int .i64 vy] 25)) from mC) hm)
    by_cases hlt : k < n
    · skip
      obtain ⟨b, off, x, y, rfl, hblt, hx, ox, oy, c0, c1⟩ := vec_el (Ty.at_more HV.out HMW.out) (k := k) (by rw [← HN.out]; exact hlt)
      have hxy := List.all_eq_true.1 HA.out (x, y) (List.mem_of_getElem? hx)
      have hxz := hxy
      obtain ⟨⟨bx0, bx1⟩, by0, by1⟩ := isV_iff.1 hxz
      clear hxz
      dsimp only at bx0 bx1 by0 by1
      have HX := Lib.hid hx; clear hx
      have OX := Lib.hid ox; have OY := Lib.hid oy; clear ox oy
      have hlen : ((l.map (addV (vx, vy))).take k).length ≤ 2097152 := by rw [List.length_take, List.length_map, ← HN.out]; omega
      have HLen := Lib.hid hlen; clear hlen
      have m0 : More wr (wr.alloc (.cells #[.int .i64 x, .int .i64 y] 25)) := Turns.more ((Turns.refl [] _).alloc _)
      have N0 := fun (w' : World) (h : More (wr.alloc (.cells #[.int .i64 x, .int .i64 y] 25)) w') => (VBox.new rfl h : VBox w' wr.heap.size (.int .i64 x) (.int .i64 y))
      obtain ⟨z0a, z0b, z0f, z0l⟩ := N0 _ (More.refl _)
      have HBq := HB _ (hm.trans m0)
      rcases Bool.eq_false_or_eq_true (isV (x + vx, y + vy)) with hb | hb
      · go_wp2_with (first | (go_at_call 132; refine (spec_IsValidVec _ _ _).mono ?_; rintro e w1 ⟨rfl, hb1⟩; have HB1 := HB w1 mC; have hsz1 := hb1.size; obtain ⟨z1a, z1b, z1f, z1l⟩ := N0 w1 mC) | (at_builtin; refine wpList_pushOwn tVec wr rfl _ _ 28 rfl (w.heap.size + 1) 25 i0 (.agg #[.int .i64 0, .int .i64 0]) 16 Try.underlying28 hi hz0 hz1 hz2 rfl (by decide) rfl HL.out mC rfl (by simp) (vec_fresh (x := x + vx) (y := y + vy) (In64.small (by omega)) (In64.small (by omega))) HLen (by decide) (Lib.hid (show w.heap.size + 1 ≤ wr.heap.size by have := hm.size; simp at this; omega)) ?_))
        intro v' w2 hl2 hmw2
        go_wp2_with fail
        go_roundw
        case rel => exact ⟨k + 1, by omega, by go_num, hmw2 (w.alloc (.cells #[.int .i64 vx, .int .i64 vy] 25)) (by simp) mC, Lib.hid (by rw [take_map_next HX.out]; exact hl2), Lib.hid (all_take_next (x := (x + vx, y + vy)) (by rw [List.getElem?_map, HX.out]; rfl) HQ.out hb)⟩
        case measure => simp [intOf]; omega
      · go_wp2_with (first | (go_at_call 132; refine (spec_IsValidVec _ _ _).mono ?_; rintro e w1 ⟨rfl, hb1⟩; have HB1 := HB w1 mC; have hsz1 := hb1.size; obtain ⟨z1a, z1b, z1f, z1l⟩ := N0 w1 mC))
        go_ret
        exact ⟨_, rfl, mC, by rw [movG_no (all_false (x := (x + vx, y + vy)) (k := k) (by rw [List.getElem?_map, HX.out]; rfl) hb)]; exact nil_fresh⟩
    · go_wp2_with fail
      go_ret
      obtain rfl : k = n := by omega
      exact ⟨_, rfl, HMW.out, by
        have h1 := HL.out.fresh
        have h2 := HQ.out
        rw [List.take_of_length_le (by rw [List.length_map, HN.out]; exact Nat.le_refl _)] at h1 h2
        rw [movG_yes h2]
        exact Ty.fresh_mono h1 (by omega)⟩
set_option maxRecDepth 8000 in
set_option maxHeartbeats 3200000 in
theorem spec_MoveToOrigin (v : Value) (l : List QV) (w : World) (hv : tVecs.at w [v] l) (hl : l.length ≤ 1048576) :
    Calls Try.prog 18 #[v] w fun e w' => ∃ v', e = .returned v' ∧ More w w' ∧ tVecs.fresh w.heap.size w' [v'] (movO l) := by
  have HL := Lib.hid hl
  have HV0 := Lib.hid hv; clear hv
  rcases Bool.eq_false_or_eq_true (isPoly l) with hp | hp
  rotate_left
  · have HP := Lib.hid hp; clear hp
    rw [movO_no HP.out]
    go_enter Try.func18, Try.ntmps18
    go_wp2_with (go_at_call 13; refine (spec_WidthOf _ l _ (Ty.at_more HV0.out mC) HL.out).mono ?_; rintro e w2 ⟨rfl, hb2⟩; rw [widF_no HP.out])
    go_ret
    exact ⟨_, rfl, mC, nil_fresh⟩
  · have HP := Lib.hid hp; clear hp
    have HA := Lib.hid (poly_all HP.out)
    obtain ⟨a, b, hab⟩ : ∃ a b, loK l l.length = (a, b) := ⟨_, _, rfl⟩
    obtain ⟨c, d, hcd⟩ : ∃ a b, hiK l l.length = (a, b) := ⟨_, _, rfl⟩
    have HAB := Lib.hid hab; have HCD := Lib.hid hcd
    clear hab hcd
    rw [movO_yes HP.out HAB.out]
    have hva := loK_isV HA.out l.length
    rw [HAB.out] at hva
    obtain ⟨⟨a0, a1⟩, b0, b1⟩ := isV_iff.1 hva
    clear hva
    dsimp only at a0 a1 b0 b1
    have HVN : Hid (isV (-a, -b) = true) := Lib.hid (isV_iff.2 (by dsimp only; omega))
    go_enter Try.func18, Try.ntmps18
    go_wp2_with (first | (go_at_call 13; refine (spec_WidthOf _ l _ (Ty.at_more HV0.out mC) HL.out).mono ?_; rintro e w2 ⟨rfl, hb2⟩; rw [widF_yes HP.out, HAB.out, HCD.out]; have HB := fun (w' : World) (h : More ((w2.alloc (.cells #[.int .i64 a, .int .i64 b] 25)).alloc (.cells #[.int .i64 c, .int .i64 d] 25)) w') => (And.intro (VBox.new rfl (More.un h)) (VBox.new (by simp) h) : VBox w' w2.heap.size (.int .i64 a) (.int .i64 b) ∧ VBox w' (w2.heap.size + 1) (.int .i64 c) (.int .i64 d)); obtain ⟨⟨g1, g2, g3, g4⟩, ⟨g5, g6, g7, g8⟩⟩ := HB _ (More.refl _)) | (go_at_call 63; refine (spec_MovePolygon _ l (-a) (-b) _ (Ty.at_more HV0.out mC) HL.out HA.out HVN.out).mono ?_; rintro e w3 ⟨v', rfl, hb3, F3⟩))
    go_ret
    exact ⟨_, rfl, mC, Ty.fresh_mono F3 (More.size mC)⟩
set_option maxRecDepth 8000 in
set_option maxHeartbeats 3200000 in
theorem impl_MoveToOrigin (v : Value) (l : List QV) (w : World) (hv : tVecs.at w [v] l) (hl : l.length ≤ 1048576) :
    Calls Try.prog 19 #[v] w fun e w' => ∃ v', e = .returned v' ∧ More w w' ∧ tVecs.fresh w.heap.size w' [v'] (movO l) := by
  have HL := Lib.hid hl
  have HV0 := Lib.hid hv; clear hv
  rcases Bool.eq_false_or_eq_true (isPoly l) with hp | hp
  rotate_left
  · have HP := Lib.hid hp; clear hp
    rw [movO_no HP.out]
    go_enter Try.func19, Try.ntmps19
    go_wp2_with (go_at_call 27; refine (impl_IsPolygon _ l _ (Ty.at_more HV0.out mC) HL.out).mono ?_; rintro e w1 ⟨rfl, hb1⟩; rw [HP.out])
    go_ret
    exact ⟨_, rfl, mC, nil_fresh⟩
  · have HP := Lib.hid hp; clear hp
    have HA := Lib.hid (poly_all HP.out)
    obtain ⟨a, b, hab⟩ : ∃ a b, loK l l.length = (a, b) := ⟨_, _, rfl⟩
    obtain ⟨c, d, hcd⟩ : ∃ a b, hiK l l.length = (a, b) := ⟨_, _, rfl⟩
    have HAB := Lib.hid hab; have HCD := Lib.hid hcd
    clear hab hcd
    rw [movO_yes HP.out HAB.out]
    have hva := loK_isV HA.out l.length
    rw [HAB.out] at hva
    obtain ⟨⟨a0, a1⟩, b0, b1⟩ := isV_iff.1 hva
    clear hva
    dsimp only at a0 a1 b0 b1
    have HVN : Hid (isV (-a, -b) = true) := Lib.hid (isV_iff.2 (by dsimp only; omega))
    rcases Bool.eq_false_or_eq_true ((l.map (addV (-a, -b))).all isV) with hg | hg
    · have HG := Lib.hid hg; clear hg
      rw [movG_yes HG.out]
      go_enter Try.func19, Try.ntmps19
      go_wp2_with (first | (go_at_call 27; refine (impl_IsPolygon _ l _ (Ty.at_more HV0.out mC) HL.out).mono ?_; rintro e w1 ⟨rfl, hb1⟩; rw [HP.out]) | (go_at_call 62; refine (impl_widthOf _ l _ (Ty.at_more HV0.out mC) HP.out).mono ?_; rintro e w2 ⟨rfl, hb2⟩; rw [HAB.out, HCD.out]; have HB := fun (w' : World) (h : More ((w2.alloc (.cells #[.int .i64 a, .int .i64 b] 25)).alloc (.cells #[.int .i64 c, .int .i64 d] 25)) w') => (And.intro (VBox.new rfl (More.un h)) (VBox.new (by simp) h) : VBox w' w2.heap.size (.int .i64 a) (.int .i64 b) ∧ VBox w' (w2.heap.size + 1) (.int .i64 c) (.int .i64 d)); obtain ⟨⟨g1, g2, g3, g4⟩, ⟨g5, g6, g7, g8⟩⟩ := HB _ (More.refl _)) | (go_at_call 64; refine (impl_moved _ l (-a) (-b) _ (Ty.at_more HV0.out mC) HL.out HA.out HVN.out).mono ?_; rintro e w3 ⟨v', rfl, hb3, f3⟩; have F3 := Lib.hid f3; clear f3) | (go_at_call 65; refine (impl_areVecs _ (l.map (addV (-a, -b))) _ (Ty.at_more (Ty.fresh_at F3.out) mC) (by have := HL.out; rw [List.length_map]; omega)).mono ?_; rintro e w4 ⟨rfl, hb4⟩; rw [HG.out]))
      go_ret
      exact ⟨_, rfl, mC, Ty.fresh_mono (Ty.fresh_more F3.out mC) (More.size mC)⟩
    · have HG := Lib.hid hg; clear hg
      rw [movG_no HG.out]
      go_enter Try.func19, Try.ntmps19
      go_wp2_with (first | (go_at_call 27; refine (impl_IsPolygon _ l _ (Ty.at_more HV0.out mC) HL.out).mono ?_; rintro e w1 ⟨rfl, hb1⟩; rw [HP.out]) | (go_at_call 62; refine (impl_widthOf _ l _ (Ty.at_more HV0.out mC) HP.out).mono ?_; rintro e w2 ⟨rfl, hb2⟩; rw [HAB.out, HCD.out]; have HB := fun (w' : World) (h : More ((w2.alloc (.cells #[.int .i64 a, .int .i64 b] 25)).alloc (.cells #[.int .i64 c, .int .i64 d] 25)) w') => (And.intro (VBox.new rfl (More.un h)) (VBox.new (by simp) h) : VBox w' w2.heap.size (.int .i64 a) (.int .i64 b) ∧ VBox w' (w2.heap.size + 1) (.int .i64 c) (.int .i64 d)); obtain ⟨⟨g1, g2, g3, g4⟩, ⟨g5, g6, g7, g8⟩⟩ := HB _ (More.refl _)) | (go_at_call 64; refine (impl_moved _ l (-a) (-b) _ (Ty.at_more HV0.out mC) HL.out HA.out HVN.out).mono ?_; rintro e w3 ⟨v', rfl, hb3, f3⟩; have F3 := Lib.hid f3; clear f3) | (go_at_call 65; refine (impl_areVecs _ (l.map (addV (-a, -b))) _ (Ty.at_more (Ty.fresh_at F3.out) mC) (by have := HL.out; rw [List.length_map]; omega)).mono ?_; rintro e w4 ⟨rfl, hb4⟩; rw [HG.out]))
      go_ret
      exact ⟨_, rfl, mC, nil_fresh⟩
end Go.Proofs.Ytlidkddicnfmaaa
