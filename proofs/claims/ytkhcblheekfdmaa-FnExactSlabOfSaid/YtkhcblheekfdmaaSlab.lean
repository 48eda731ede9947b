/- Slabs. -/
import Derived.Test.YtkhcblheekfdmaaAsc
namespace Go.Proofs.Ytkhcblheekfdmaa
open Go.RowKit
theorem slab_bad {l : List QR} {z : QR} (h : (ascB l && ratOkB z) = false) : slabF l z = -1 := by unfold slabF; rw [h]; rfl
theorem slab_found {l : List QR} {z : QR} {k : Nat} (h : (ascB l && ratOkB z) = true) (hk : k + 1 < l.length) (h1 : ∀ i, i < k → slabP l z i = false) (h2 : slabP l z k = true) : slabF l z = k := by
  unfold slabF
  rw [if_pos h]
  refine idxI_found (x := k) (fun i y hi hy => ?_) (by rw [List.getElem?_range (by omega)]) h2
  rw [List.getElem?_range (by omega)] at hy
  cases hy
  exact h1 i hi
theorem slab_none {l : List QR} {z : QR} (h : (ascB l && ratOkB z) = true) (h1 : ∀ i, i + 1 < l.length → slabP l z i = false) : slabF l z = -1 := by
  unfold slabF
  rw [if_pos h]
  refine idxI_none (fun i y hy => ?_)
  have hi := (List.getElem?_eq_some_iff.1 hy).1
  rw [List.length_range] at hi
  rw [List.getElem?_range hi] at hy
  cases hy
  exact h1 i (by omega)
theorem slabP_eq {l : List QR} {z x y : QR} {k : Nat} (hx : l[k]? = some x) (hy : l[k + 1]? = some y) : slabP l z k = (decide (rCmp x z < 0) && decide (rCmp z y < 0)) := by
  unfold slabP
  rw [getD_some hx, getD_some hy]
set_option maxRecDepth 4000 in
set_option maxHeartbeats 6400000 in
theorem impl_SlabOf (v : Value) (l : List QR) (cs : List Value) (z : QR) (w : World) (hv : tRatS.at w [v] l) (hl : l.length ≤ 1048576 ∧ ∀ x ∈ l, wRat x ≤ 1048576) (hz : tRat.at w cs z) (wz : wRat z ≤ 1048576) :
    Calls Try.prog 43 #[v, .agg cs.toArray] w fun e w' => e = .returned (.int .i64 (slabF l z)) ∧ More w w' := by
  obtain ⟨ao, cap, rfl⟩ := sl_len hv
  obtain ⟨pa, pn, pc, pd, pm, pe, rfl⟩ := sh_Rat hz
  have HV := Lib.hid hv; have HL := Lib.hid hl; have Hp := Lib.hid hz; have Wp := Lib.hid wz; clear hv hz wz
  show Calls Try.prog 43 #[_, .agg #[.bool z.1.1, .slice pa pn pc, .slice pd pm pe]] w _
  have hl' := hl.1
  clear hl
  obtain ⟨n, hn⟩ : ∃ n, n = l.length := ⟨_, rfl⟩
  rw [← hn] at HV hl' ⊢
  have HN := Lib.hid hn; clear hn
  rcases Bool.eq_false_or_eq_true (ascB l) with ka | ka
  rotate_left
  · have KA := Lib.hid ka; clear ka
    have HX : More (w.alloc (.cells #[.bool z.1.1, .slice pa pn pc, .slice pd pm pe] 32)) (w.alloc (.cells #[.bool z.1.1, .slice pa pn pc, .slice pd pm pe] 32)) := More.refl _
    have HB : ∀ w', More (w.alloc (.cells #[.bool z.1.1, .slice pa pn pc, .slice pd pm pe] 32)) w' → w'.cell? ⟨w.heap.size, 0, none⟩ = some (.bool z.1.1) ∧ w'.cell? ⟨w.heap.size, 1, none⟩ = some (.slice pa pn pc) ∧ w'.cell? ⟨w.heap.size, 2, none⟩ = some (.slice pd pm pe) ∧ (∀ j, w'.frozen? ⟨w.heap.size, j, none⟩ = false) := fun w' h => ⟨box_new (by simp) h 0, box_new (by simp) h 1, box_new (by simp) h 2, fun j => box_free (by simp) h j⟩
    go_enter Try.func43, Try.ntmps43
    go_wp2_with (first | (go_at_call 35; refine (impl_IsAscending _ l _ (Ty.at_more HV.out (Turns.more (by repeat (first | (with_reducible exact Turns.refl _ _) | (with_reducible apply Turns.drew) | (with_reducible apply Turns.drewN) | (with_reducible apply Turns.alloc) | (with_reducible refine Turns.via (by assumption) ?_))))) HL.out).mono ?_; rintro e w1 ⟨rfl, hb1⟩; have HX1 : More (w.alloc (.cells #[.bool z.1.1, .slice pa pn pc, .slice pd pm pe] 32)) w1 := (Turns.more (by repeat (first | (with_reducible exact Turns.refl _ _) | (with_reducible apply Turns.drew) | (with_reducible apply Turns.drewN) | (with_reducible apply Turns.alloc) | (with_reducible refine Turns.via (by assumption) ?_)))); have HB1 := HB _ HX1; have hz1 := More.size HX1; (try simp at hz1); have hb1 := hb1; rw [KA.out]))
    go_ret
    exact ⟨ret_int (slab_bad (by rw [KA.out]; rfl)).symm, (Turns.more (by repeat (first | (with_reducible exact Turns.refl _ _) | (with_reducible apply Turns.drew) | (with_reducible apply Turns.drewN) | (with_reducible apply Turns.alloc) | (with_reducible refine Turns.via (by assumption) ?_))))⟩
  have KA := Lib.hid ka; clear ka
  rcases Bool.eq_false_or_eq_true (ratOkB z) with kz | kz
  rotate_left
  · have KZ := Lib.hid kz; clear kz
    have HX : More (w.alloc (.cells #[.bool z.1.1, .slice pa pn pc, .slice pd pm pe] 32)) (w.alloc (.cells #[.bool z.1.1, .slice pa pn pc, .slice pd pm pe] 32)) := More.refl _
    have HB : ∀ w', More (w.alloc (.cells #[.bool z.1.1, .slice pa pn pc, .slice pd pm pe] 32)) w' → w'.cell? ⟨w.heap.size, 0, none⟩ = some (.bool z.1.1) ∧ w'.cell? ⟨w.heap.size, 1, none⟩ = some (.slice pa pn pc) ∧ w'.cell? ⟨w.heap.size, 2, none⟩ = some (.slice pd pm pe) ∧ (∀ j, w'.frozen? ⟨w.heap.size, j, none⟩ = false) := fun w' h => ⟨box_new (by simp) h 0, box_new (by simp) h 1, box_new (by simp) h 2, fun j => box_free (by simp) h j⟩
    go_enter Try.func43, Try.ntmps43
    go_wp2_with (first | (go_at_call 35; refine (impl_IsAscending _ l _ (Ty.at_more HV.out (Turns.more (by repeat (first | (with_reducible exact Turns.refl _ _) | (with_reducible apply Turns.drew) | (with_reducible apply Turns.drewN) | (with_reducible apply Turns.alloc) | (with_reducible refine Turns.via (by assumption) ?_))))) HL.out).mono ?_; rintro e w1 ⟨rfl, hb1⟩; have HX1 : More (w.alloc (.cells #[.bool z.1.1, .slice pa pn pc, .slice pd pm pe] 32)) w1 := (Turns.more (by repeat (first | (with_reducible exact Turns.refl _ _) | (with_reducible apply Turns.drew) | (with_reducible apply Turns.drewN) | (with_reducible apply Turns.alloc) | (with_reducible refine Turns.via (by assumption) ?_)))); have HB1 := HB _ HX1; have hz1 := More.size HX1; (try simp at hz1); have hb1 := hb1; rw [KA.out]) | (go_at_call 90; refine (impl_RatOk z.1.1 (.slice pa pn pc) (.slice pd pm pe) z _ (Ty.at_more Hp.out (Turns.more (by repeat (first | (with_reducible exact Turns.refl _ _) | (with_reducible apply Turns.drew) | (with_reducible apply Turns.drewN) | (with_reducible apply Turns.alloc) | (with_reducible refine Turns.via (by assumption) ?_))))) Wp.out).mono ?_; rintro e w2 ⟨rfl, hb2⟩; have HX2 : More (w.alloc (.cells #[.bool z.1.1, .slice pa pn pc, .slice pd pm pe] 32)) w2 := (Turns.more (by repeat (first | (with_reducible exact Turns.refl _ _) | (with_reducible apply Turns.drew) | (with_reducible apply Turns.drewN) | (with_reducible apply Turns.alloc) | (with_reducible refine Turns.via (by assumption) ?_)))); have HB2 := HB _ HX2; have hz2 := More.size HX2; (try simp at hz2); have hb2 := hb2; rw [KZ.out]))
    go_ret
    exact ⟨ret_int (slab_bad (by rw [KA.out, KZ.out]; rfl)).symm, (Turns.more (by repeat (first | (with_reducible exact Turns.refl _ _) | (with_reducible apply Turns.drew) | (with_reducible apply Turns.drewN) | (with_reducible apply Turns.alloc) | (with_reducible refine Turns.via (by assumption) ?_))))⟩
  have KZ := Lib.hid kz; clear kz
  have KK : Hid ((ascB l && ratOkB z) = true) := Lib.hid (by rw [KA.out, KZ.out]; rfl)
  have HX : More (w.alloc (.cells #[.bool z.1.1, .slice pa pn pc, .slice pd pm pe] 32)) (w.alloc (.cells #[.bool z.1.1, .slice pa pn pc, .slice pd pm pe] 32)) := More.refl _
  have HB : ∀ w', More (w.alloc (.cells #[.bool z.1.1, .slice pa pn pc, .slice pd pm pe] 32)) w' → w'.cell? ⟨w.heap.size, 0, none⟩ = some (.bool z.1.1) ∧ w'.cell? ⟨w.heap.size, 1, none⟩ = some (.slice pa pn pc) ∧ w'.cell? ⟨w.heap.size, 2, none⟩ = some (.slice pd pm pe) ∧ (∀ j, w'.frozen? ⟨w.heap.size, j, none⟩ = false) := fun w' h => ⟨box_new (by simp) h 0, box_new (by simp) h 1, box_new (by simp) h 2, fun j => box_free (by simp) h j⟩
  go_enter Try.func43, Try.ntmps43
  go_wp2_with (first | (go_at_call 35; refine (impl_IsAscending _ l _ (Ty.at_more HV.out (Turns.more (by repeat (first | (with_reducible exact Turns.refl _ _) | (with_reducible apply Turns.drew) | (with_reducible apply Turns.drewN) | (with_reducible apply Turns.alloc) | (with_reducible refine Turns.via (by assumption) ?_))))) HL.out).mono ?_; rintro e w1 ⟨rfl, hb1⟩; have HX1 : More (w.alloc (.cells #[.bool z.1.1, .slice pa pn pc, .slice pd pm pe] 32)) w1 := (Turns.more (by repeat (first | (with_reducible exact Turns.refl _ _) | (with_reducible apply Turns.drew) | (with_reducible apply Turns.drewN) | (with_reducible apply Turns.alloc) | (with_reducible refine Turns.via (by assumption) ?_)))); have HB1 := HB _ HX1; have hz1 := More.size HX1; (try simp at hz1); have hb1 := hb1; rw [KA.out]) | (go_at_call 90; refine (impl_RatOk z.1.1 (.slice pa pn pc) (.slice pd pm pe) z _ (Ty.at_more Hp.out (Turns.more (by repeat (first | (with_reducible exact Turns.refl _ _) | (with_reducible apply Turns.drew) | (with_reducible apply Turns.drewN) | (with_reducible apply Turns.alloc) | (with_reducible refine Turns.via (by assumption) ?_))))) Wp.out).mono ?_; rintro e w2 ⟨rfl, hb2⟩; have HX2 : More (w.alloc (.cells #[.bool z.1.1, .slice pa pn pc, .slice pd pm pe] 32)) w2 := (Turns.more (by repeat (first | (with_reducible exact Turns.refl _ _) | (with_reducible apply Turns.drew) | (with_reducible apply Turns.drewN) | (with_reducible apply Turns.alloc) | (with_reducible refine Turns.via (by assumption) ?_)))); have HB2 := HB _ HX2; have hz2 := More.size HX2; (try simp at hz2); have hb2 := hb2; rw [KZ.out]))
  go_loopw [5] (fun i wr => ∃ k : Nat, k ≤ n ∧ i = .int .i64 ((k : Int) + 1) ∧ More (w.alloc (.cells #[.bool z.1.1, .slice pa pn pc, .slice pd pm pe] 32)) wr ∧ Hid (∀ i, i < k → slabP l z i = false)) (fun i _ => n + 1 - (intOf i).toNat)
  case atStart => exact ⟨0, Nat.zero_le _, rfl, (Turns.more (by repeat (first | (with_reducible exact Turns.refl _ _) | (with_reducible apply Turns.drew) | (with_reducible apply Turns.drewN) | (with_reducible apply Turns.alloc) | (with_reducible refine Turns.via (by assumption) ?_)))), Lib.hid (fun i hi => by omega)⟩
  case round =>
    obtain ⟨k, hk, rfl, hm, HS⟩ := hrel
    have HBr := HB _ hm
    by_cases hlt : k + 1 < n
    · have hlt' : (k : Int) + 1 < (n : Int) := by omega
      have hlt0 : (k : Int) < (n : Int) := by omega
      obtain ⟨b, off, x, a1, n1, c1, a2, n2, c2, rfl, hblt, hx, hat, p0, p1, p2⟩ := el_Rat (w := wr) (Ty.at_more HV.out (Turns.more (by repeat (first | (with_reducible exact Turns.refl _ _) | (with_reducible apply Turns.drew) | (with_reducible apply Turns.drewN) | (with_reducible apply Turns.alloc) | (with_reducible refine Turns.via (by assumption) ?_))))) (k := k) (by rw [← HN.out]; omega)
      obtain ⟨b', off', y, sa1, sn1, sc1, sa2, sn2, sc2, e9, -, hy, hat', q0, q1, q2⟩ := el_Rat (w := wr) (Ty.at_more HV.out (Turns.more (by repeat (first | (with_reducible exact Turns.refl _ _) | (with_reducible apply Turns.drew) | (with_reducible apply Turns.drewN) | (with_reducible apply Turns.alloc) | (with_reducible refine Turns.via (by assumption) ?_))))) (k := k + 1) (by rw [← HN.out]; omega)
      cases e9
      have hi0 : (0 : Int) ≤ (k : Int) := by omega
      have hi2 : (0 : Int) ≤ (k : Int) + 1 := by omega
      have g6 : IntKind.i64.wrap (↑k + 1 - 1) = (↑k : Int) := by rw [IntKind.wrap_i64]; omega
      have g13 : IntKind.i64.wrap (↑k : Int) = ↑k := by rw [IntKind.wrap_i64]; omega
      have g14 : IntKind.i64.wrap (↑k + 1 : Int) = ↑k + 1 := by rw [IntKind.wrap_i64]; omega
      have HX := Lib.hid hx; have HY := Lib.hid hy; have HA := Lib.hid hat; have HA' := Lib.hid hat'; clear hx hy hat hat'
      have KX := Lib.hid (asc_ok KA.out HX.out); have KY := Lib.hid (asc_ok KA.out HY.out)
      have WX := Lib.hid (HL.out.2 x (List.mem_of_getElem? HX.out)); have WY := Lib.hid (HL.out.2 y (List.mem_of_getElem? HY.out))
      have C0 : ∀ w', More wr w' → w'.cell? ⟨b, off + k * 3, none⟩ = some (.bool x.1.1) := fun w' h => ((bcell h).1 _ _ hblt).trans p0
      have C1 : ∀ w', More wr w' → w'.cell? ⟨b, off + k * 3 + 1, none⟩ = some (.slice a1 n1 c1) := fun w' h => ((bcell h).1 _ _ hblt).trans p1
      have C2 : ∀ w', More wr w' → w'.cell? ⟨b, off + k * 3 + 2, none⟩ = some (.slice a2 n2 c2) := fun w' h => ((bcell h).1 _ _ hblt).trans p2
      have D0 : ∀ w', More wr w' → w'.cell? ⟨b, off + (k + 1) * 3, none⟩ = some (.bool y.1.1) := fun w' h => ((bcell h).1 _ _ hblt).trans q0
      have D1 : ∀ w', More wr w' → w'.cell? ⟨b, off + (k + 1) * 3 + 1, none⟩ = some (.slice sa1 sn1 sc1) := fun w' h => ((bcell h).1 _ _ hblt).trans q1
      have D2 : ∀ w', More wr w' → w'.cell? ⟨b, off + (k + 1) * 3 + 2, none⟩ = some (.slice sa2 sn2 sc2) := fun w' h => ((bcell h).1 _ _ hblt).trans q2
      have HBz := fun (w' : World) (h : More wr w') => HB w' (More.trans hm h)
      have hzr := More.size hm
      (try simp at hzr)
      obtain ⟨c, hc⟩ : ∃ c, rCmp x z = c := ⟨_, rfl⟩
      have C := Lib.hid hc; clear hc
      obtain ⟨d, hd⟩ : ∃ d, rCmp z y = d := ⟨_, rfl⟩
      have D := Lib.hid hd; clear hd
      have HP : Hid (slabP l z k = (decide (c < 0) && decide (d < 0))) := Lib.hid (by rw [slabP_eq HX.out HY.out, C.out, D.out])
      rcases (show c < 0 ∨ 0 ≤ c by omega) with h | h
      rotate_left
      · have hc0 : decide (c < 0) = false := decide_eq_false (by omega)
        go_wp2_with fail
        refine wp_region_held_drew (S := (fun w' => More wr w')) (by kernel_rfl) ?_ (fun hHeld => ?_)
        · first | exact More.refl _ | exact (Turns.more (by repeat (first | (with_reducible exact Turns.refl _ _) | (with_reducible apply Turns.drew) | (with_reducible apply Turns.drewN) | (with_reducible apply Turns.alloc) | (with_reducible refine Turns.via (by assumption) ?_))))
        refine wpAnyH_take (i := 0) (oi := ⟨some 20, _, _, _, _, _⟩) (v := ?_) rfl (by kernel_rfl) (by kernel_rfl) (by kernel_rfl) (fun _ _ _ h => h) (Or.inl ⟨by rfl, ?_⟩) (by assumption) ?_
        rotate_left
        · (intro w hSw; (try dsimp only at hSw); go_simp; (try with_reducible rfl))
        (try simp only [Act.put, List.setIfInBounds_toArray, List.set_cons_zero, List.set_cons_succ])
        refine wpAnyH_take (i := 1) (oi := ⟨some 21, _, _, _, _, _⟩) (v := ?_) rfl (by kernel_rfl) (by kernel_rfl) (by kernel_rfl) (fun _ _ _ h => h) (Or.inl ⟨by rfl, ?_⟩) (by assumption) ?_
        rotate_left
        · (intro w hSw; (try dsimp only at hSw); go_simp; (try with_reducible rfl))
        (try simp only [Act.put, List.setIfInBounds_toArray, List.set_cons_zero, List.set_cons_succ])
        refine wpAnyH_take (i := 2) (oi := ⟨some 22, _, _, _, _, _⟩) (v := ?_) rfl (by kernel_rfl) (by kernel_rfl) (by kernel_rfl) (fun _ _ _ h => h) (Or.inl ⟨by rfl, ?_⟩) (by assumption) ?_
        rotate_left
        · (intro w hSw; (try dsimp only at hSw); go_simp; (try with_reducible rfl))
        (try simp only [Act.put, List.setIfInBounds_toArray, List.set_cons_zero, List.set_cons_succ])
        refine wpAnyH_take (i := 3) (oi := ⟨some 23, _, _, _, _, _⟩) (v := ?_) rfl (by kernel_rfl) (by kernel_rfl) (by kernel_rfl) (fun _ _ _ h => h) (Or.inl ⟨by rfl, ?_⟩) (by assumption) ?_
        rotate_left
        · (intro w hSw; (try dsimp only at hSw); go_simp; (try with_reducible rfl))
        (try simp only [Act.put, List.setIfInBounds_toArray, List.set_cons_zero, List.set_cons_succ])
        refine wpAnyH_take (i := 4) (oi := ⟨some 24, _, _, _, _, _⟩) (v := ?_) rfl (by kernel_rfl) (by kernel_rfl) (by kernel_rfl) (fun _ _ _ h => h) (Or.inl ⟨by rfl, ?_⟩) (by assumption) ?_
        rotate_left
        · (intro w hSw; (try dsimp only at hSw); go_simp; (try with_reducible rfl))
        (try simp only [Act.put, List.setIfInBounds_toArray, List.set_cons_zero, List.set_cons_succ])
        refine wpAnyH_take (i := 5) (oi := ⟨some 25, _, _, _, _, _⟩) (v := ?_) rfl (by kernel_rfl) (by kernel_rfl) (by kernel_rfl) (fun _ _ _ h => h) (Or.inl ⟨by rfl, ?_⟩) (by assumption) ?_
        rotate_left
        · (intro w hSw; (try dsimp only at hSw); go_simp; (try with_reducible rfl))
        (try simp only [Act.put, List.setIfInBounds_toArray, List.set_cons_zero, List.set_cons_succ])
        refine wpAnyH_ready (rs := [6]) (by kernel_rfl) (by simp) ?_
        refine AllReadyH.cons (o := ⟨some 26, _, _, _, _, _⟩) rfl (fun K hK => ?_) AllReadyH.nil
        go_simp
        (go_at_call 98; (with_reducible refine (impl_ratCmpX x x.1.1 (.slice a1 n1 c1) (.slice a2 n2 c2) z z.1.1 (.slice pa pn pc) (.slice pd pm pe) _ KX.out KZ.out (Ty.at_more HA.out (Turns.more (by repeat (first | (with_reducible exact Turns.refl _ _) | (with_reducible apply Turns.drew) | (with_reducible apply Turns.drewN) | (with_reducible apply Turns.alloc) | (with_reducible refine Turns.via (by assumption) ?_))))) (Ty.at_more Hp.out (Turns.more (by repeat (first | (with_reducible exact Turns.refl _ _) | (with_reducible apply Turns.drew) | (with_reducible apply Turns.drewN) | (with_reducible apply Turns.alloc) | (with_reducible refine Turns.via (by assumption) ?_)))))).mono ?_); rintro e w3 ⟨rfl, hb3⟩; rw [C.out])
        refine hK.out _ _ ?_ (fun hHeld => ?_)
        · first | exact More.refl _ | exact (Turns.more (by repeat (first | (with_reducible exact Turns.refl _ _) | (with_reducible apply Turns.drew) | (with_reducible apply Turns.drewN) | (with_reducible apply Turns.alloc) | (with_reducible refine Turns.via (by assumption) ?_))))
        clear hK K
        (try simp only [Act.put, List.setIfInBounds_toArray, List.set_cons_zero, List.set_cons_succ])
        refine wpAnyH_take (i := 7) (oi := ⟨some 27, _, _, _, _, _⟩) (v := ?_) rfl (by kernel_rfl) (by kernel_rfl) (by kernel_rfl) (fun _ _ _ h => h) (Or.inl ⟨by rfl, ?_⟩) (by assumption) ?_
        rotate_left
        · (intro w hSw; (try dsimp only at hSw); go_simp; (try with_reducible rfl))
        (try simp only [Act.put, List.setIfInBounds_toArray, List.set_cons_zero, List.set_cons_succ])
        refine wpAnyH_take (i := 8) (oi := ⟨some 28, _, _, _, _, _⟩) (v := ?_) rfl (by kernel_rfl) (by kernel_rfl) (by kernel_rfl) (fun _ _ _ h => h) (Or.inl ⟨by rfl, ?_⟩) (by assumption) ?_
        rotate_left
        · (intro w hSw; (try dsimp only at hSw); go_simp; (try with_reducible rfl))
        (try simp only [Act.put, List.setIfInBounds_toArray, List.set_cons_zero, List.set_cons_succ])
        refine wpAnyH_take (i := 9) (oi := ⟨some 29, _, _, _, _, _⟩) (v := undef) rfl (by kernel_rfl) (by kernel_rfl) (by kernel_rfl) (fun _ _ _ h => h) (Or.inr ⟨by rfl, rfl⟩) (by assumption) ?_
        (try simp only [Act.put, List.setIfInBounds_toArray, List.set_cons_zero, List.set_cons_succ])
        refine wpAnyH_take (i := 10) (oi := ⟨some 30, _, _, _, _, _⟩) (v := undef) rfl (by kernel_rfl) (by kernel_rfl) (by kernel_rfl) (fun _ _ _ h => h) (Or.inr ⟨by rfl, rfl⟩) (by assumption) ?_
        (try simp only [Act.put, List.setIfInBounds_toArray, List.set_cons_zero, List.set_cons_succ])
        refine wpAnyH_take (i := 11) (oi := ⟨some 31, _, _, _, _, _⟩) (v := undef) rfl (by kernel_rfl) (by kernel_rfl) (by kernel_rfl) (fun _ _ _ h => h) (Or.inr ⟨by rfl, rfl⟩) (by assumption) ?_
        (try simp only [Act.put, List.setIfInBounds_toArray, List.set_cons_zero, List.set_cons_succ])
        refine wpAnyH_take (i := 12) (oi := ⟨some 32, _, _, _, _, _⟩) (v := undef) rfl (by kernel_rfl) (by kernel_rfl) (by kernel_rfl) (fun _ _ _ h => h) (Or.inr ⟨by rfl, rfl⟩) (by assumption) ?_
        (try simp only [Act.put, List.setIfInBounds_toArray, List.set_cons_zero, List.set_cons_succ])
        refine wpAnyH_take (i := 13) (oi := ⟨some 33, _, _, _, _, _⟩) (v := undef) rfl (by kernel_rfl) (by kernel_rfl) (by kernel_rfl) (fun _ _ _ h => h) (Or.inr ⟨by rfl, rfl⟩) (by assumption) ?_
        (try simp only [Act.put, List.setIfInBounds_toArray, List.set_cons_zero, List.set_cons_succ])
        refine wpAnyH_take (i := 14) (oi := ⟨some 34, _, _, _, _, _⟩) (v := undef) rfl (by kernel_rfl) (by kernel_rfl) (by kernel_rfl) (fun _ _ _ h => h) (Or.inr ⟨by rfl, rfl⟩) (by assumption) ?_
        (try simp only [Act.put, List.setIfInBounds_toArray, List.set_cons_zero, List.set_cons_succ])
        refine wpAnyH_take (i := 15) (oi := ⟨some 35, _, _, _, _, _⟩) (v := undef) rfl (by kernel_rfl) (by kernel_rfl) (by kernel_rfl) (fun _ _ _ h => h) (Or.inr ⟨by rfl, rfl⟩) (by assumption) ?_
        (try simp only [Act.put, List.setIfInBounds_toArray, List.set_cons_zero, List.set_cons_succ])
        refine wpAnyH_take (i := 16) (oi := ⟨some 36, _, _, _, _, _⟩) (v := ?_) rfl (by kernel_rfl) (by kernel_rfl) (by kernel_rfl) (fun _ _ _ h => h) (Or.inl ⟨by rfl, ?_⟩) (by assumption) ?_
        rotate_left
        · (intro w hSw; (try dsimp only at hSw); go_simp; (try with_reducible rfl))
        (try simp only [Act.put, List.setIfInBounds_toArray, List.set_cons_zero, List.set_cons_succ])
        refine wpAnyH_done (by kernel_rfl) ?_ _
        go_wp2_with fail
        go_roundw
        case rel => exact ⟨k + 1, by omega, by go_num, (Turns.more (by repeat (first | (with_reducible exact Turns.refl _ _) | (with_reducible apply Turns.drew) | (with_reducible apply Turns.drewN) | (with_reducible apply Turns.alloc) | (with_reducible refine Turns.via (by assumption) ?_)))), Lib.hid (fun i hi => by
          rcases Nat.lt_succ_iff_lt_or_eq.1 hi with h9 | rfl
          · exact HS.out i h9
          · rw [HP.out]; simp; omega)⟩
        case measure => simp [intOf]; omega
      rcases (show d < 0 ∨ 0 ≤ d by omega) with h2 | h2
      rotate_left
      · go_wp2_with fail
        go_region_held3 (fun w' => More wr w') (first | exact More.refl _ | exact (Turns.more (by repeat (first | (with_reducible exact Turns.refl _ _) | (with_reducible apply Turns.drew) | (with_reducible apply Turns.drewN) | (with_reducible apply Turns.alloc) | (with_reducible refine Turns.via (by assumption) ?_))))) (first | (go_at_call 98; (with_reducible refine (impl_ratCmpX x x.1.1 (.slice a1 n1 c1) (.slice a2 n2 c2) z z.1.1 (.slice pa pn pc) (.slice pd pm pe) _ KX.out KZ.out (Ty.at_more HA.out (Turns.more (by repeat (first | (with_reducible exact Turns.refl _ _) | (with_reducible apply Turns.drew) | (with_reducible apply Turns.drewN) | (with_reducible apply Turns.alloc) | (with_reducible refine Turns.via (by assumption) ?_))))) (Ty.at_more Hp.out (Turns.more (by repeat (first | (with_reducible exact Turns.refl _ _) | (with_reducible apply Turns.drew) | (with_reducible apply Turns.drewN) | (with_reducible apply Turns.alloc) | (with_reducible refine Turns.via (by assumption) ?_)))))).mono ?_); rintro e w3 ⟨rfl, hb3⟩; rw [C.out]) | (go_at_call 98; (with_reducible refine (impl_ratCmpX z z.1.1 (.slice pa pn pc) (.slice pd pm pe) y y.1.1 (.slice sa1 sn1 sc1) (.slice sa2 sn2 sc2) _ KZ.out KY.out (Ty.at_more Hp.out (Turns.more (by repeat (first | (with_reducible exact Turns.refl _ _) | (with_reducible apply Turns.drew) | (with_reducible apply Turns.drewN) | (with_reducible apply Turns.alloc) | (with_reducible refine Turns.via (by assumption) ?_))))) (Ty.at_more HA'.out (Turns.more (by repeat (first | (with_reducible exact Turns.refl _ _) | (with_reducible apply Turns.drew) | (with_reducible apply Turns.drewN) | (with_reducible apply Turns.alloc) | (with_reducible refine Turns.via (by assumption) ?_)))))).mono ?_); rintro e w4 ⟨rfl, hb4⟩; rw [D.out]))
        all_goals
          go_wp2_with fail
          go_roundw
          case rel => exact ⟨k + 1, by omega, by go_num, (Turns.more (by repeat (first | (with_reducible exact Turns.refl _ _) | (with_reducible apply Turns.drew) | (with_reducible apply Turns.drewN) | (with_reducible apply Turns.alloc) | (with_reducible refine Turns.via (by assumption) ?_)))), Lib.hid (fun i hi => by
            rcases Nat.lt_succ_iff_lt_or_eq.1 hi with h9 | rfl
            · exact HS.out i h9
            · rw [HP.out]; simp; omega)⟩
          case measure => simp [intOf]; omega
      go_wp2_with fail
      go_region_held3 (fun w' => More wr w') (first | exact More.refl _ | exact (Turns.more (by repeat (first | (with_reducible exact Turns.refl _ _) | (with_reducible apply Turns.drew) | (with_reducible apply Turns.drewN) | (with_reducible apply Turns.alloc) | (with_reducible refine Turns.via (by assumption) ?_))))) (first | (go_at_call 98; (with_reducible refine (impl_ratCmpX x x.1.1 (.slice a1 n1 c1) (.slice a2 n2 c2) z z.1.1 (.slice pa pn pc) (.slice pd pm pe) _ KX.out KZ.out (Ty.at_more HA.out (Turns.more (by repeat (first | (with_reducible exact Turns.refl _ _) | (with_reducible apply Turns.drew) | (with_reducible apply Turns.drewN) | (with_reducible apply Turns.alloc) | (with_reducible refine Turns.via (by assumption) ?_))))) (Ty.at_more Hp.out (Turns.more (by repeat (first | (with_reducible exact Turns.refl _ _) | (with_reducible apply Turns.drew) | (with_reducible apply Turns.drewN) | (with_reducible apply Turns.alloc) | (with_reducible refine Turns.via (by assumption) ?_)))))).mono ?_); rintro e w3 ⟨rfl, hb3⟩; rw [C.out]) | (go_at_call 98; (with_reducible refine (impl_ratCmpX z z.1.1 (.slice pa pn pc) (.slice pd pm pe) y y.1.1 (.slice sa1 sn1 sc1) (.slice sa2 sn2 sc2) _ KZ.out KY.out (Ty.at_more Hp.out (Turns.more (by repeat (first | (with_reducible exact Turns.refl _ _) | (with_reducible apply Turns.drew) | (with_reducible apply Turns.drewN) | (with_reducible apply Turns.alloc) | (with_reducible refine Turns.via (by assumption) ?_))))) (Ty.at_more HA'.out (Turns.more (by repeat (first | (with_reducible exact Turns.refl _ _) | (with_reducible apply Turns.drew) | (with_reducible apply Turns.drewN) | (with_reducible apply Turns.alloc) | (with_reducible refine Turns.via (by assumption) ?_)))))).mono ?_); rintro e w4 ⟨rfl, hb4⟩; rw [D.out]))
      all_goals
        go_wp2_with fail
        go_ret
        exact ⟨ret_int (by rw [slab_found KK.out (by rw [← HN.out]; exact hlt) HS.out (by rw [HP.out]; simp [h, h2])]), (Turns.more (by repeat (first | (with_reducible exact Turns.refl _ _) | (with_reducible apply Turns.drew) | (with_reducible apply Turns.drewN) | (with_reducible apply Turns.alloc) | (with_reducible refine Turns.via (by assumption) ?_))))⟩
    · have hlt' : ¬ (k : Int) + 1 < (n : Int) := by omega
      go_wp2_with fail
      go_ret
      exact ⟨ret_int (slab_none KK.out (fun i hi => HS.out i (by have := HN.out; omega))).symm, (Turns.more (by repeat (first | (with_reducible exact Turns.refl _ _) | (with_reducible apply Turns.drew) | (with_reducible apply Turns.drewN) | (with_reducible apply Turns.alloc) | (with_reducible refine Turns.via (by assumption) ?_))))⟩
set_option maxRecDepth 4000 in
set_option maxHeartbeats 6400000 in
theorem spec_SlabOf (v : Value) (l : List QR) (cs : List Value) (z : QR) (w : World) (hv : tRatS.at w [v] l) (hl : l.length ≤ 1048576 ∧ ∀ x ∈ l, wRat x ≤ 1048576) (hz : tRat.at w cs z) (wz : wRat z ≤ 1048576) :
    Calls Try.prog 42 #[v, .agg cs.toArray] w fun e w' => e = .returned (.int .i64 (slabF l z)) ∧ More w w' := by
  obtain ⟨ao, cap, rfl⟩ := sl_len hv
  obtain ⟨pa, pn, pc, pd, pm, pe, rfl⟩ := sh_Rat hz
  have HV := Lib.hid hv; have HL := Lib.hid hl; have Hp := Lib.hid hz; have Wp := Lib.hid wz; clear hv hz wz
  show Calls Try.prog 42 #[_, .agg #[.bool z.1.1, .slice pa pn pc, .slice pd pm pe]] w _
  have hl' := hl.1
  clear hl
  obtain ⟨n, hn⟩ : ∃ n, n = l.length := ⟨_, rfl⟩
  rw [← hn] at HV hl' ⊢
  have HN := Lib.hid hn; clear hn
  rcases Bool.eq_false_or_eq_true (ascB l) with ka | ka
  rotate_left
  · have KA := Lib.hid ka; clear ka
    have HX : More (w.alloc (.cells #[.bool z.1.1, .slice pa pn pc, .slice pd pm pe] 32)) (w.alloc (.cells #[.bool z.1.1, .slice pa pn pc, .slice pd pm pe] 32)) := More.refl _
    have HB : ∀ w', More (w.alloc (.cells #[.bool z.1.1, .slice pa pn pc, .slice pd pm pe] 32)) w' → w'.cell? ⟨w.heap.size, 0, none⟩ = some (.bool z.1.1) ∧ w'.cell? ⟨w.heap.size, 1, none⟩ = some (.slice pa pn pc) ∧ w'.cell? ⟨w.heap.size, 2, none⟩ = some (.slice pd pm pe) ∧ (∀ j, w'.frozen? ⟨w.heap.size, j, none⟩ = false) := fun w' h => ⟨box_new (by simp) h 0, box_new (by simp) h 1, box_new (by simp) h 2, fun j => box_free (by simp) h j⟩
    go_enter Try.func42, Try.ntmps42
    go_wp2_with (first | (go_at_call 33; refine (spec_IsAscending _ l _ (Ty.at_more HV.out (Turns.more (by repeat (first | (with_reducible exact Turns.refl _ _) | (with_reducible apply Turns.drew) | (with_reducible apply Turns.drewN) | (with_reducible apply Turns.alloc) | (with_reducible refine Turns.via (by assumption) ?_))))) HL.out).mono ?_; rintro e w1 ⟨rfl, hb1⟩; have HX1 : More (w.alloc (.cells #[.bool z.1.1, .slice pa pn pc, .slice pd pm pe] 32)) w1 := (Turns.more (by repeat (first | (with_reducible exact Turns.refl _ _) | (with_reducible apply Turns.drew) | (with_reducible apply Turns.drewN) | (with_reducible apply Turns.alloc) | (with_reducible refine Turns.via (by assumption) ?_)))); have HB1 := HB _ HX1; have hz1 := More.size HX1; (try simp at hz1); have hb1 := hb1; rw [KA.out]))
    go_ret
    exact ⟨ret_int (slab_bad (by rw [KA.out]; rfl)).symm, (Turns.more (by repeat (first | (with_reducible exact Turns.refl _ _) | (with_reducible apply Turns.drew) | (with_reducible apply Turns.drewN) | (with_reducible apply Turns.alloc) | (with_reducible refine Turns.via (by assumption) ?_))))⟩
  have KA := Lib.hid ka; clear ka
  rcases Bool.eq_false_or_eq_true (ratOkB z) with kz | kz
  rotate_left
  · have KZ := Lib.hid kz; clear kz
    have HX : More (w.alloc (.cells #[.bool z.1.1, .slice pa pn pc, .slice pd pm pe] 32)) (w.alloc (.cells #[.bool z.1.1, .slice pa pn pc, .slice pd pm pe] 32)) := More.refl _
    have HB : ∀ w', More (w.alloc (.cells #[.bool z.1.1, .slice pa pn pc, .slice pd pm pe] 32)) w' → w'.cell? ⟨w.heap.size, 0, none⟩ = some (.bool z.1.1) ∧ w'.cell? ⟨w.heap.size, 1, none⟩ = some (.slice pa pn pc) ∧ w'.cell? ⟨w.heap.size, 2, none⟩ = some (.slice pd pm pe) ∧ (∀ j, w'.frozen? ⟨w.heap.size, j, none⟩ = false) := fun w' h => ⟨box_new (by simp) h 0, box_new (by simp) h 1, box_new (by simp) h 2, fun j => box_free (by simp) h j⟩
    go_enter Try.func42, Try.ntmps42
    go_wp2_with (first | (go_at_call 33; refine (spec_IsAscending _ l _ (Ty.at_more HV.out (Turns.more (by repeat (first | (with_reducible exact Turns.refl _ _) | (with_reducible apply Turns.drew) | (with_reducible apply Turns.drewN) | (with_reducible apply Turns.alloc) | (with_reducible refine Turns.via (by assumption) ?_))))) HL.out).mono ?_; rintro e w1 ⟨rfl, hb1⟩; have HX1 : More (w.alloc (.cells #[.bool z.1.1, .slice pa pn pc, .slice pd pm pe] 32)) w1 := (Turns.more (by repeat (first | (with_reducible exact Turns.refl _ _) | (with_reducible apply Turns.drew) | (with_reducible apply Turns.drewN) | (with_reducible apply Turns.alloc) | (with_reducible refine Turns.via (by assumption) ?_)))); have HB1 := HB _ HX1; have hz1 := More.size HX1; (try simp at hz1); have hb1 := hb1; rw [KA.out]) | (go_at_call 95; refine (spec_RatOk z.1.1 (.slice pa pn pc) (.slice pd pm pe) z _ (Ty.at_more Hp.out (Turns.more (by repeat (first | (with_reducible exact Turns.refl _ _) | (with_reducible apply Turns.drew) | (with_reducible apply Turns.drewN) | (with_reducible apply Turns.alloc) | (with_reducible refine Turns.via (by assumption) ?_))))) Wp.out).mono ?_; rintro e w2 ⟨rfl, hb2⟩; have HX2 : More (w.alloc (.cells #[.bool z.1.1, .slice pa pn pc, .slice pd pm pe] 32)) w2 := (Turns.more (by repeat (first | (with_reducible exact Turns.refl _ _) | (with_reducible apply Turns.drew) | (with_reducible apply Turns.drewN) | (with_reducible apply Turns.alloc) | (with_reducible refine Turns.via (by assumption) ?_)))); have HB2 := HB _ HX2; have hz2 := More.size HX2; (try simp at hz2); have hb2 := hb2; rw [KZ.out]))
    go_ret
    exact ⟨ret_int (slab_bad (by rw [KA.out, KZ.out]; rfl)).symm, (Turns.more (by repeat (first | (with_reducible exact Turns.refl _ _) | (with_reducible apply Turns.drew) | (with_reducible apply Turns.drewN) | (with_reducible apply Turns.alloc) | (with_reducible refine Turns.via (by assumption) ?_))))⟩
  have KZ := Lib.hid kz; clear kz
  have KK : Hid ((ascB l && ratOkB z) = true) := Lib.hid (by rw [KA.out, KZ.out]; rfl)
  have HX : More (w.alloc (.cells #[.bool z.1.1, .slice pa pn pc, .slice pd pm pe] 32)) (w.alloc (.cells #[.bool z.1.1, .slice pa pn pc, .slice pd pm pe] 32)) := More.refl _
  have HB : ∀ w', More (w.alloc (.cells #[.bool z.1.1, .slice pa pn pc, .slice pd pm pe] 32)) w' → w'.cell? ⟨w.heap.size, 0, none⟩ = some (.bool z.1.1) ∧ w'.cell? ⟨w.heap.size, 1, none⟩ = some (.slice pa pn pc) ∧ w'.cell? ⟨w.heap.size, 2, none⟩ = some (.slice pd pm pe) ∧ (∀ j, w'.frozen? ⟨w.heap.size, j, none⟩ = false) := fun w' h => ⟨box_new (by simp) h 0, box_new (by simp) h 1, box_new (by simp) h 2, fun j => box_free (by simp) h j⟩
  go_enter Try.func42, Try.ntmps42
  go_wp2_with (first | (go_at_call 33; refine (spec_IsAscending _ l _ (Ty.at_more HV.out (Turns.more (by repeat (first | (with_reducible exact Turns.refl _ _) | (with_reducible apply Turns.drew) | (with_reducible apply Turns.drewN) | (with_reducible apply Turns.alloc) | (with_reducible refine Turns.via (by assumption) ?_))))) HL.out).mono ?_; rintro e w1 ⟨rfl, hb1⟩; have HX1 : More (w.alloc (.cells #[.bool z.1.1, .slice pa pn pc, .slice pd pm pe] 32)) w1 := (Turns.more (by repeat (first | (with_reducible exact Turns.refl _ _) | (with_reducible apply Turns.drew) | (with_reducible apply Turns.drewN) | (with_reducible apply Turns.alloc) | (with_reducible refine Turns.via (by assumption) ?_)))); have HB1 := HB _ HX1; have hz1 := More.size HX1; (try simp at hz1); have hb1 := hb1; rw [KA.out]) | (go_at_call 95; refine (spec_RatOk z.1.1 (.slice pa pn pc) (.slice pd pm pe) z _ (Ty.at_more Hp.out (Turns.more (by repeat (first | (with_reducible exact Turns.refl _ _) | (with_reducible apply Turns.drew) | (with_reducible apply Turns.drewN) | (with_reducible apply Turns.alloc) | (with_reducible refine Turns.via (by assumption) ?_))))) Wp.out).mono ?_; rintro e w2 ⟨rfl, hb2⟩; have HX2 : More (w.alloc (.cells #[.bool z.1.1, .slice pa pn pc, .slice pd pm pe] 32)) w2 := (Turns.more (by repeat (first | (with_reducible exact Turns.refl _ _) | (with_reducible apply Turns.drew) | (with_reducible apply Turns.drewN) | (with_reducible apply Turns.alloc) | (with_reducible refine Turns.via (by assumption) ?_)))); have HB2 := HB _ HX2; have hz2 := More.size HX2; (try simp at hz2); have hb2 := hb2; rw [KZ.out]))
  go_loopw [5] (fun i wr => ∃ k : Nat, k ≤ n ∧ i = .int .i64 ((k : Int) + 1) ∧ More (w.alloc (.cells #[.bool z.1.1, .slice pa pn pc, .slice pd pm pe] 32)) wr ∧ Hid (∀ i, i < k → slabP l z i = false)) (fun i _ => n + 1 - (intOf i).toNat)
  case atStart => exact ⟨0, Nat.zero_le _, rfl, (Turns.more (by repeat (first | (with_reducible exact Turns.refl _ _) | (with_reducible apply Turns.drew) | (with_reducible apply Turns.drewN) | (with_reducible apply Turns.alloc) | (with_reducible refine Turns.via (by assumption) ?_)))), Lib.hid (fun i hi => by omega)⟩
  case round =>
    obtain ⟨k, hk, rfl, hm, HS⟩ := hrel
    have HBr := HB _ hm
    by_cases hlt : k + 1 < n
    · have hlt' : (k : Int) + 1 < (n : Int) := by omega
      have hlt0 : (k : Int) < (n : Int) := by omega
      obtain ⟨b, off, x, a1, n1, c1, a2, n2, c2, rfl, hblt, hx, hat, p0, p1, p2⟩ := el_Rat (w := wr) (Ty.at_more HV.out (Turns.more (by repeat (first | (with_reducible exact Turns.refl _ _) | (with_reducible apply Turns.drew) | (with_reducible apply Turns.drewN) | (with_reducible apply Turns.alloc) | (with_reducible refine Turns.via (by assumption) ?_))))) (k := k) (by rw [← HN.out]; omega)
      obtain ⟨b', off', y, sa1, sn1, sc1, sa2, sn2, sc2, e9, -, hy, hat', q0, q1, q2⟩ := el_Rat (w := wr) (Ty.at_more HV.out (Turns.more (by repeat (first | (with_reducible exact Turns.refl _ _) | (with_reducible apply Turns.drew) | (with_reducible apply Turns.drewN) | (with_reducible apply Turns.alloc) | (with_reducible refine Turns.via (by assumption) ?_))))) (k := k + 1) (by rw [← HN.out]; omega)
      cases e9
      have hi0 : (0 : Int) ≤ (k : Int) := by omega
      have hi2 : (0 : Int) ≤ (k : Int) + 1 := by omega
      have g6 : IntKind.i64.wrap (↑k + 1 - 1) = (↑k : Int) := by rw [IntKind.wrap_i64]; omega
      have g13 : IntKind.i64.wrap (↑k : Int) = ↑k := by rw [IntKind.wrap_i64]; omega
      have g14 : IntKind.i64.wrap (↑k + 1 : Int) = ↑k + 1 := by rw [IntKind.wrap_i64]; omega
      have HX := Lib.hid hx; have HY := Lib.hid hy; have HA := Lib.hid hat; have HA' := Lib.hid hat'; clear hx hy hat hat'
      have KX := Lib.hid (asc_ok KA.out HX.out); have KY := Lib.hid (asc_ok KA.out HY.out)
      have WX := Lib.hid (HL.out.2 x (List.mem_of_getElem? HX.out)); have WY := Lib.hid (HL.out.2 y (List.mem_of_getElem? HY.out))
      have C0 : ∀ w', More wr w' → w'.cell? ⟨b, off + k * 3, none⟩ = some (.bool x.1.1) := fun w' h => ((bcell h).1 _ _ hblt).trans p0
      have C1 : ∀ w', More wr w' → w'.cell? ⟨b, off + k * 3 + 1, none⟩ = some (.slice a1 n1 c1) := fun w' h => ((bcell h).1 _ _ hblt).trans p1
      have C2 : ∀ w', More wr w' → w'.cell? ⟨b, off + k * 3 + 2, none⟩ = some (.slice a2 n2 c2) := fun w' h => ((bcell h).1 _ _ hblt).trans p2
      have D0 : ∀ w', More wr w' → w'.cell? ⟨b, off + (k + 1) * 3, none⟩ = some (.bool y.1.1) := fun w' h => ((bcell h).1 _ _ hblt).trans q0
      have D1 : ∀ w', More wr w' → w'.cell? ⟨b, off + (k + 1) * 3 + 1, none⟩ = some (.slice sa1 sn1 sc1) := fun w' h => ((bcell h).1 _ _ hblt).trans q1
      have D2 : ∀ w', More wr w' → w'.cell? ⟨b, off + (k + 1) * 3 + 2, none⟩ = some (.slice sa2 sn2 sc2) := fun w' h => ((bcell h).1 _ _ hblt).trans q2
      have HBz := fun (w' : World) (h : More wr w') => HB w' (More.trans hm h)
      have hzr := More.size hm
      (try simp at hzr)
      obtain ⟨c, hc⟩ : ∃ c, rCmp x z = c := ⟨_, rfl⟩
      have C := Lib.hid hc; clear hc
      obtain ⟨d, hd⟩ : ∃ d, rCmp z y = d := ⟨_, rfl⟩
      have D := Lib.hid hd; clear hd
      have HP : Hid (slabP l z k = (decide (c < 0) && decide (d < 0))) := Lib.hid (by rw [slabP_eq HX.out HY.out, C.out, D.out])
      rcases (show c < 0 ∨ 0 ≤ c by omega) with h | h
      rotate_left
      · have hc0 : decide (c < 0) = false := decide_eq_false (by omega)
        go_wp2_with fail
        refine wp_region_held_drew (S := (fun w' => More wr w')) (by kernel_rfl) ?_ (fun hHeld => ?_)
        · first | exact More.refl _ | exact (Turns.more (by repeat (first | (with_reducible exact Turns.refl _ _) | (with_reducible apply Turns.drew) | (with_reducible apply Turns.drewN) | (with_reducible apply Turns.alloc) | (with_reducible refine Turns.via (by assumption) ?_))))
        refine wpAnyH_take (i := 0) (oi := ⟨some 20, _, _, _, _, _⟩) (v := ?_) rfl (by kernel_rfl) (by kernel_rfl) (by kernel_rfl) (fun _ _ _ h => h) (Or.inl ⟨by rfl, ?_⟩) (by assumption) ?_
        rotate_left
        · (intro w hSw; (try dsimp only at hSw); go_simp; (try with_reducible rfl))
        (try simp only [Act.put, List.setIfInBounds_toArray, List.set_cons_zero, List.set_cons_succ])
        refine wpAnyH_take (i := 1) (oi := ⟨some 21, _, _, _, _, _⟩) (v := ?_) rfl (by kernel_rfl) (by kernel_rfl) (by kernel_rfl) (fun _ _ _ h => h) (Or.inl ⟨by rfl, ?_⟩) (by assumption) ?_
        rotate_left
        · (intro w hSw; (try dsimp only at hSw); go_simp; (try with_reducible rfl))
        (try simp only [Act.put, List.setIfInBounds_toArray, List.set_cons_zero, List.set_cons_succ])
        refine wpAnyH_take (i := 2) (oi := ⟨some 22, _, _, _, _, _⟩) (v := ?_) rfl (by kernel_rfl) (by kernel_rfl) (by kernel_rfl) (fun _ _ _ h => h) (Or.inl ⟨by rfl, ?_⟩) (by assumption) ?_
        rotate_left
        · (intro w hSw; (try dsimp only at hSw); go_simp; (try with_reducible rfl))
        (try simp only [Act.put, List.setIfInBounds_toArray, List.set_cons_zero, List.set_cons_succ])
        refine wpAnyH_take (i := 3) (oi := ⟨some 23, _, _, _, _, _⟩) (v := ?_) rfl (by kernel_rfl) (by kernel_rfl) (by kernel_rfl) (fun _ _ _ h => h) (Or.inl ⟨by rfl, ?_⟩) (by assumption) ?_
        rotate_left
        · (intro w hSw; (try dsimp only at hSw); go_simp; (try with_reducible rfl))
        (try simp only [Act.put, List.setIfInBounds_toArray, List.set_cons_zero, List.set_cons_succ])
        refine wpAnyH_take (i := 4) (oi := ⟨some 24, _, _, _, _, _⟩) (v := ?_) rfl (by kernel_rfl) (by kernel_rfl) (by kernel_rfl) (fun _ _ _ h => h) (Or.inl ⟨by rfl, ?_⟩) (by assumption) ?_
        rotate_left
        · (intro w hSw; (try dsimp only at hSw); go_simp; (try with_reducible rfl))
        (try simp only [Act.put, List.setIfInBounds_toArray, List.set_cons_zero, List.set_cons_succ])
        refine wpAnyH_take (i := 5) (oi := ⟨some 25, _, _, _, _, _⟩) (v := ?_) rfl (by kernel_rfl) (by kernel_rfl) (by kernel_rfl) (fun _ _ _ h => h) (Or.inl ⟨by rfl, ?_⟩) (by assumption) ?_
        rotate_left
        · (intro w hSw; (try dsimp only at hSw); go_simp; (try with_reducible rfl))
        (try simp only [Act.put, List.setIfInBounds_toArray, List.set_cons_zero, List.set_cons_succ])
        refine wpAnyH_ready (rs := [6]) (by kernel_rfl) (by simp) ?_
        refine AllReadyH.cons (o := ⟨some 26, _, _, _, _, _⟩) rfl (fun K hK => ?_) AllReadyH.nil
        go_simp
        (go_at_call 96; (with_reducible refine (spec_RatCmpX x x.1.1 (.slice a1 n1 c1) (.slice a2 n2 c2) z z.1.1 (.slice pa pn pc) (.slice pd pm pe) _ (Ty.at_more HA.out (Turns.more (by repeat (first | (with_reducible exact Turns.refl _ _) | (with_reducible apply Turns.drew) | (with_reducible apply Turns.drewN) | (with_reducible apply Turns.alloc) | (with_reducible refine Turns.via (by assumption) ?_))))) WX.out (Ty.at_more Hp.out (Turns.more (by repeat (first | (with_reducible exact Turns.refl _ _) | (with_reducible apply Turns.drew) | (with_reducible apply Turns.drewN) | (with_reducible apply Turns.alloc) | (with_reducible refine Turns.via (by assumption) ?_))))) Wp.out).mono ?_); rintro e w3 ⟨rfl, hb3⟩; rw [C.out])
        refine hK.out _ _ ?_ (fun hHeld => ?_)
        · first | exact More.refl _ | exact (Turns.more (by repeat (first | (with_reducible exact Turns.refl _ _) | (with_reducible apply Turns.drew) | (with_reducible apply Turns.drewN) | (with_reducible apply Turns.alloc) | (with_reducible refine Turns.via (by assumption) ?_))))
        clear hK K
        (try simp only [Act.put, List.setIfInBounds_toArray, List.set_cons_zero, List.set_cons_succ])
        refine wpAnyH_take (i := 7) (oi := ⟨some 27, _, _, _, _, _⟩) (v := ?_) rfl (by kernel_rfl) (by kernel_rfl) (by kernel_rfl) (fun _ _ _ h => h) (Or.inl ⟨by rfl, ?_⟩) (by assumption) ?_
        rotate_left
        · (intro w hSw; (try dsimp only at hSw); go_simp; (try with_reducible rfl))
        (try simp only [Act.put, List.setIfInBounds_toArray, List.set_cons_zero, List.set_cons_succ])
        refine wpAnyH_take (i := 8) (oi := ⟨some 28, _, _, _, _, _⟩) (v := ?_) rfl (by kernel_rfl) (by kernel_rfl) (by kernel_rfl) (fun _ _ _ h => h) (Or.inl ⟨by rfl, ?_⟩) (by assumption) ?_
        rotate_left
        · (intro w hSw; (try dsimp only at hSw); go_simp; (try with_reducible rfl))
        (try simp only [Act.put, List.setIfInBounds_toArray, List.set_cons_zero, List.set_cons_succ])
        refine wpAnyH_take (i := 9) (oi := ⟨some 29, _, _, _, _, _⟩) (v := undef) rfl (by kernel_rfl) (by kernel_rfl) (by kernel_rfl) (fun _ _ _ h => h) (Or.inr ⟨by rfl, rfl⟩) (by assumption) ?_
        (try simp only [Act.put, List.setIfInBounds_toArray, List.set_cons_zero, List.set_cons_succ])
        refine wpAnyH_take (i := 10) (oi := ⟨some 30, _, _, _, _, _⟩) (v := undef) rfl (by kernel_rfl) (by kernel_rfl) (by kernel_rfl) (fun _ _ _ h => h) (Or.inr ⟨by rfl, rfl⟩) (by assumption) ?_
        (try simp only [Act.put, List.setIfInBounds_toArray, List.set_cons_zero, List.set_cons_succ])
        refine wpAnyH_take (i := 11) (oi := ⟨some 31, _, _, _, _, _⟩) (v := undef) rfl (by kernel_rfl) (by kernel_rfl) (by kernel_rfl) (fun _ _ _ h => h) (Or.inr ⟨by rfl, rfl⟩) (by assumption) ?_
        (try simp only [Act.put, List.setIfInBounds_toArray, List.set_cons_zero, List.set_cons_succ])
        refine wpAnyH_take (i := 12) (oi := ⟨some 32, _, _, _, _, _⟩) (v := undef) rfl (by kernel_rfl) (by kernel_rfl) (by kernel_rfl) (fun _ _ _ h => h) (Or.inr ⟨by rfl, rfl⟩) (by assumption) ?_
        (try simp only [Act.put, List.setIfInBounds_toArray, List.set_cons_zero, List.set_cons_succ])
        refine wpAnyH_take (i := 13) (oi := ⟨some 33, _, _, _, _, _⟩) (v := undef) rfl (by kernel_rfl) (by kernel_rfl) (by kernel_rfl) (fun _ _ _ h => h) (Or.inr ⟨by rfl, rfl⟩) (by assumption) ?_
        (try simp only [Act.put, List.setIfInBounds_toArray, List.set_cons_zero, List.set_cons_succ])
        refine wpAnyH_take (i := 14) (oi := ⟨some 34, _, _, _, _, _⟩) (v := undef) rfl (by kernel_rfl) (by kernel_rfl) (by kernel_rfl) (fun _ _ _ h => h) (Or.inr ⟨by rfl, rfl⟩) (by assumption) ?_
        (try simp only [Act.put, List.setIfInBounds_toArray, List.set_cons_zero, List.set_cons_succ])
        refine wpAnyH_take (i := 15) (oi := ⟨some 35, _, _, _, _, _⟩) (v := undef) rfl (by kernel_rfl) (by kernel_rfl) (by kernel_rfl) (fun _ _ _ h => h) (Or.inr ⟨by rfl, rfl⟩) (by assumption) ?_
        (try simp only [Act.put, List.setIfInBounds_toArray, List.set_cons_zero, List.set_cons_succ])
        refine wpAnyH_take (i := 16) (oi := ⟨some 36, _, _, _, _, _⟩) (v := ?_) rfl (by kernel_rfl) (by kernel_rfl) (by kernel_rfl) (fun _ _ _ h => h) (Or.inl ⟨by rfl, ?_⟩) (by assumption) ?_
        rotate_left
        · (intro w hSw; (try dsimp only at hSw); go_simp; (try with_reducible rfl))
        (try simp only [Act.put, List.setIfInBounds_toArray, List.set_cons_zero, List.set_cons_succ])
        refine wpAnyH_done (by kernel_rfl) ?_ _
        go_wp2_with fail
        go_roundw
        case rel => exact ⟨k + 1, by omega, by go_num, (Turns.more (by repeat (first | (with_reducible exact Turns.refl _ _) | (with_reducible apply Turns.drew) | (with_reducible apply Turns.drewN) | (with_reducible apply Turns.alloc) | (with_reducible refine Turns.via (by assumption) ?_)))), Lib.hid (fun i hi => by
          rcases Nat.lt_succ_iff_lt_or_eq.1 hi with h9 | rfl
          · exact HS.out i h9
          · rw [HP.out]; simp; omega)⟩
        case measure => simp [intOf]; omega
      rcases (show d < 0 ∨ 0 ≤ d by omega) with h2 | h2
      rotate_left
      · go_wp2_with fail
        go_region_held3 (fun w' => More wr w') (first | exact More.refl _ | exact (Turns.more (by repeat (first | (with_reducible exact Turns.refl _ _) | (with_reducible apply Turns.drew) | (with_reducible apply Turns.drewN) | (with_reducible apply Turns.alloc) | (with_reducible refine Turns.via (by assumption) ?_))))) (first | (go_at_call 96; (with_reducible refine (spec_RatCmpX x x.1.1 (.slice a1 n1 c1) (.slice a2 n2 c2) z z.1.1 (.slice pa pn pc) (.slice pd pm pe) _ (Ty.at_more HA.out (Turns.more (by repeat (first | (with_reducible exact Turns.refl _ _) | (with_reducible apply Turns.drew) | (with_reducible apply Turns.drewN) | (with_reducible apply Turns.alloc) | (with_reducible refine Turns.via (by assumption) ?_))))) WX.out (Ty.at_more Hp.out (Turns.more (by repeat (first | (with_reducible exact Turns.refl _ _) | (with_reducible apply Turns.drew) | (with_reducible apply Turns.drewN) | (with_reducible apply Turns.alloc) | (with_reducible refine Turns.via (by assumption) ?_))))) Wp.out).mono ?_); rintro e w3 ⟨rfl, hb3⟩; rw [C.out]) | (go_at_call 96; (with_reducible refine (spec_RatCmpX z z.1.1 (.slice pa pn pc) (.slice pd pm pe) y y.1.1 (.slice sa1 sn1 sc1) (.slice sa2 sn2 sc2) _ (Ty.at_more Hp.out (Turns.more (by repeat (first | (with_reducible exact Turns.refl _ _) | (with_reducible apply Turns.drew) | (with_reducible apply Turns.drewN) | (with_reducible apply Turns.alloc) | (with_reducible refine Turns.via (by assumption) ?_))))) Wp.out (Ty.at_more HA'.out (Turns.more (by repeat (first | (with_reducible exact Turns.refl _ _) | (with_reducible apply Turns.drew) | (with_reducible apply Turns.drewN) | (with_reducible apply Turns.alloc) | (with_reducible refine Turns.via (by assumption) ?_))))) WY.out).mono ?_); rintro e w4 ⟨rfl, hb4⟩; rw [D.out]))
        all_goals
          go_wp2_with fail
          go_roundw
          case rel => exact ⟨k + 1, by omega, by go_num, (Turns.more (by repeat (first | (with_reducible exact Turns.refl _ _) | (with_reducible apply Turns.drew) | (with_reducible apply Turns.drewN) | (with_reducible apply Turns.alloc) | (with_reducible refine Turns.via (by assumption) ?_)))), Lib.hid (fun i hi => by
            rcases Nat.lt_succ_iff_lt_or_eq.1 hi with h9 | rfl
            · exact HS.out i h9
            · rw [HP.out]; simp; omega)⟩
          case measure => simp [intOf]; omega
      go_wp2_with fail
      go_region_held3 (fun w' => More wr w') (first | exact More.refl _ | exact (Turns.more (by repeat (first | (with_reducible exact Turns.refl _ _) | (with_reducible apply Turns.drew) | (with_reducible apply Turns.drewN) | (with_reducible apply Turns.alloc) | (with_reducible refine Turns.via (by assumption) ?_))))) (first | (go_at_call 96; (with_reducible refine (spec_RatCmpX x x.1.1 (.slice a1 n1 c1) (.slice a2 n2 c2) z z.1.1 (.slice pa pn pc) (.slice pd pm pe) _ (Ty.at_more HA.out (Turns.more (by repeat (first | (with_reducible exact Turns.refl _ _) | (with_reducible apply Turns.drew) | (with_reducible apply Turns.drewN) | (with_reducible apply Turns.alloc) | (with_reducible refine Turns.via (by assumption) ?_))))) WX.out (Ty.at_more Hp.out (Turns.more (by repeat (first | (with_reducible exact Turns.refl _ _) | (with_reducible apply Turns.drew) | (with_reducible apply Turns.drewN) | (with_reducible apply Turns.alloc) | (with_reducible refine Turns.via (by assumption) ?_))))) Wp.out).mono ?_); rintro e w3 ⟨rfl, hb3⟩; rw [C.out]) | (go_at_call 96; (with_reducible refine (spec_RatCmpX z z.1.1 (.slice pa pn pc) (.slice pd pm pe) y y.1.1 (.slice sa1 sn1 sc1) (.slice sa2 sn2 sc2) _ (Ty.at_more Hp.out (Turns.more (by repeat (first | (with_reducible exact Turns.refl _ _) | (with_reducible apply Turns.drew) | (with_reducible apply Turns.drewN) | (with_reducible apply Turns.alloc) | (with_reducible refine Turns.via (by assumption) ?_))))) Wp.out (Ty.at_more HA'.out (Turns.more (by repeat (first | (with_reducible exact Turns.refl _ _) | (with_reducible apply Turns.drew) | (with_reducible apply Turns.drewN) | (with_reducible apply Turns.alloc) | (with_reducible refine Turns.via (by assumption) ?_))))) WY.out).mono ?_); rintro e w4 ⟨rfl, hb4⟩; rw [D.out]))
      all_goals
        go_wp2_with fail
        go_ret
        exact ⟨ret_int (by rw [slab_found KK.out (by rw [← HN.out]; exact hlt) HS.out (by rw [HP.out]; simp [h, h2])]), (Turns.more (by repeat (first | (with_reducible exact Turns.refl _ _) | (with_reducible apply Turns.drew) | (with_reducible apply Turns.drewN) | (with_reducible apply Turns.alloc) | (with_reducible refine Turns.via (by assumption) ?_))))⟩
    · have hlt' : ¬ (k : Int) + 1 < (n : Int) := by omega
      go_wp2_with fail
      go_ret
      exact ⟨ret_int (slab_none KK.out (fun i hi => HS.out i (by have := HN.out; omega))).symm, (Turns.more (by repeat (first | (with_reducible exact Turns.refl _ _) | (with_reducible apply Turns.drew) | (with_reducible apply Turns.drewN) | (with_reducible apply Turns.alloc) | (with_reducible refine Turns.via (by assumption) ?_))))⟩
end Go.Proofs.Ytkhcblheekfdmaa
