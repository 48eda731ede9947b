/- Ascending lists of fractions; slabs. -/
import Derived.Test.YtkhcblheekfdmaaCmx
namespace Go.Proofs.Ytkhcblheekfdmaa
open Go.RowKit
noncomputable def ascB (l : List QR) : Bool := @decide ((∀ (i : Nat) (x : QR), l[i]? = some x → ratOkB x = true) ∧ ∀ (i : Nat) (y x : QR), l[i]? = some y → l[i + 1]? = some x → rCmp y x < 0) (Classical.propDecidable _)
theorem asc_yes {l : List QR} (h1 : ∀ (i : Nat) (x : QR), l[i]? = some x → ratOkB x = true) (h2 : ∀ (i : Nat) (y x : QR), l[i]? = some y → l[i + 1]? = some x → rCmp y x < 0) : ascB l = true := by unfold ascB; exact @decide_eq_true _ (Classical.propDecidable _) ⟨h1, h2⟩
theorem asc_bad {l : List QR} {i : Nat} {x : QR} (h : l[i]? = some x) (k : ratOkB x = false) : ascB l = false := by
  unfold ascB
  refine @decide_eq_false _ (Classical.propDecidable _) (fun q => ?_)
  have := q.1 i x h
  rw [k] at this
  cases this
theorem asc_no {l : List QR} {i : Nat} {y x : QR} (h : l[i]? = some y) (h' : l[i + 1]? = some x) (k : ¬ rCmp y x < 0) : ascB l = false := by
  unfold ascB
  exact @decide_eq_false _ (Classical.propDecidable _) (fun q => k (q.2 i y x h h'))
theorem asc_ok {l : List QR} (h : ascB l = true) {i : Nat} {x : QR} (k : l[i]? = some x) : ratOkB x = true := by
  unfold ascB at h
  exact (@of_decide_eq_true _ (Classical.propDecidable _) h).1 i x k
theorem all_no {l : List QR} (h : l.all ratOkB = false) : ∃ (i : Nat) (x : QR), l[i]? = some x ∧ ratOkB x = false := by
  rw [List.all_eq_false] at h
  obtain ⟨x, hx, hb⟩ := h
  obtain ⟨i, hi, rfl⟩ := List.getElem_of_mem hx
  exact ⟨i, _, List.getElem?_eq_getElem hi, by simpa using hb⟩
theorem all_ok {l : List QR} (h : l.all ratOkB = true) {i : Nat} {x : QR} (k : l[i]? = some x) : ratOkB x = true := List.all_eq_true.1 h x (List.mem_of_getElem? k)
/-- Which slab: the first pair of neighbours with the fraction strictly between. -/
noncomputable def slabP (l : List QR) (z : QR) (k : Nat) : Bool := decide (rCmp (l.getD k ((false, []), [])) z < 0) && decide (rCmp z (l.getD (k + 1) ((false, []), [])) < 0)
noncomputable def slabF (l : List QR) (z : QR) : Int := if ascB l && ratOkB z then idxI (slabP l z) (List.range (l.length - 1)) else -1
theorem getD_some {l : List QR} {k : Nat} {x : QR} (h : l[k]? = some x) : l.getD k ((false, []), []) = x := by rw [List.getD_eq_getElem?_getD, h]; rfl
set_option maxHeartbeats 3200000 in
theorem impl_IsAscending (v : Value) (l : List QR) (w : World) (hv : tRatS.at w [v] l) (hl : l.length ≤ 1048576 ∧ ∀ x ∈ l, wRat x ≤ 1048576) :
    Calls Try.prog 35 #[v] w fun e w' => e = .returned (.bool (ascB l)) ∧ More w w' := by
  obtain ⟨ao, cap, rfl⟩ := sl_len hv
  have HV := Lib.hid hv; have HL := Lib.hid hl; clear hv
  have hl' := hl.1
  clear hl
  obtain ⟨n, hn⟩ : ∃ n, n = l.length := ⟨_, rfl⟩
  rw [← hn] at HV hl' ⊢
  have HN := Lib.hid hn; clear hn
  rcases Bool.eq_false_or_eq_true (l.all ratOkB) with ka | ka
  rotate_left
  · have KA := Lib.hid ka; clear ka
    go_enter Try.func35, Try.ntmps35
    go_wp2_with (first | (go_at_call 97; refine (impl_allRats _ l _ HV.out HL.out).mono ?_; rintro e w1 ⟨rfl, hb1⟩; rw [KA.out]))
    go_ret
    obtain ⟨i, x, h1, h2⟩ := all_no KA.out
    exact ⟨ret_bool (asc_bad h1 h2).symm, (Turns.more (by repeat (first | (with_reducible exact Turns.refl _ _) | (with_reducible apply Turns.drew) | (with_reducible apply Turns.drewN) | (with_reducible apply Turns.alloc) | (with_reducible refine Turns.via (by assumption) ?_))))⟩
  have KA := Lib.hid ka; clear ka
  go_enter Try.func35, Try.ntmps35
  go_wp2_with (first | (go_at_call 97; refine (impl_allRats _ l _ HV.out HL.out).mono ?_; rintro e w1 ⟨rfl, hb1⟩; rw [KA.out]))
  go_loopw [3] (fun i wr => ∃ k : Nat, k ≤ n ∧ i = .int .i64 ((k : Int) + 1) ∧ More w wr ∧ Hid (∀ (i : Nat) (y x : QR), i < k → l[i]? = some y → l[i + 1]? = some x → rCmp y x < 0)) (fun i _ => n + 1 - (intOf i).toNat)
  case atStart => exact ⟨0, Nat.zero_le _, rfl, (Turns.more (by repeat (first | (with_reducible exact Turns.refl _ _) | (with_reducible apply Turns.drew) | (with_reducible apply Turns.drewN) | (with_reducible apply Turns.alloc) | (with_reducible refine Turns.via (by assumption) ?_)))), Lib.hid (fun i y x hi => by omega)⟩
  case round =>
    obtain ⟨k, hk, rfl, hm, HB⟩ := hrel
    by_cases hlt : k + 1 < n
    · have hlt' : (k : Int) + 1 < (n : Int) := by omega
      have hlt0 : (k : Int) < (n : Int) := by omega
      obtain ⟨b, off, x, a1, n1, c1, a2, n2, c2, rfl, hblt, hx, hat, p0, p1, p2⟩ := el_Rat (Ty.at_more HV.out hm) (k := k) (by rw [← HN.out]; omega)
      obtain ⟨b', off', y, sa1, sn1, sc1, sa2, sn2, sc2, e9, -, hy, hat', q0, q1, q2⟩ := el_Rat (Ty.at_more HV.out hm) (k := k + 1) (by rw [← HN.out]; omega)
      cases e9
      have hi0 : (0 : Int) ≤ (k : Int) := by omega
      have hi2 : (0 : Int) ≤ (k : Int) + 1 := by omega
      have g6 : IntKind.i64.wrap (↑k + 1 - 1) = (↑k : Int) := by rw [IntKind.wrap_i64]; omega
      have g13 : IntKind.i64.wrap (↑k : Int) = ↑k := by rw [IntKind.wrap_i64]; omega
      have g14 : IntKind.i64.wrap (↑k + 1 : Int) = ↑k + 1 := by rw [IntKind.wrap_i64]; omega
      have HX := Lib.hid hx; have HY := Lib.hid hy; have HA := Lib.hid hat; have HA' := Lib.hid hat'; clear hx hy hat hat'
      have KX := Lib.hid (all_ok KA.out HX.out); have KY := Lib.hid (all_ok KA.out HY.out)
      have C0 : ∀ w', More wr w' → w'.cell? ⟨b, off + k * 3, none⟩ = some (.bool x.1.1) := fun w' h => ((bcell h).1 _ _ hblt).trans p0
      have C1 : ∀ w', More wr w' → w'.cell? ⟨b, off + k * 3 + 1, none⟩ = some (.slice a1 n1 c1) := fun w' h => ((bcell h).1 _ _ hblt).trans p1
      have C2 : ∀ w', More wr w' → w'.cell? ⟨b, off + k * 3 + 2, none⟩ = some (.slice a2 n2 c2) := fun w' h => ((bcell h).1 _ _ hblt).trans p2
      have D0 : ∀ w', More wr w' → w'.cell? ⟨b, off + (k + 1) * 3, none⟩ = some (.bool y.1.1) := fun w' h => ((bcell h).1 _ _ hblt).trans q0
      have D1 : ∀ w', More wr w' → w'.cell? ⟨b, off + (k + 1) * 3 + 1, none⟩ = some (.slice sa1 sn1 sc1) := fun w' h => ((bcell h).1 _ _ hblt).trans q1
      have D2 : ∀ w', More wr w' → w'.cell? ⟨b, off + (k + 1) * 3 + 2, none⟩ = some (.slice sa2 sn2 sc2) := fun w' h => ((bcell h).1 _ _ hblt).trans q2
      obtain ⟨c, hc⟩ : ∃ c, rCmp x y = c := ⟨_, rfl⟩
      have C := Lib.hid hc; clear hc
      rcases (show c < 0 ∨ 0 ≤ c by omega) with h | h
      · go_wp2_with fail
        go_region_held3 (fun w' => More wr w') (first | exact More.refl _ | exact (Turns.more (by repeat (first | (with_reducible exact Turns.refl _ _) | (with_reducible apply Turns.drew) | (with_reducible apply Turns.drewN) | (with_reducible apply Turns.alloc) | (with_reducible refine Turns.via (by assumption) ?_))))) (first | (go_at_call 98; (with_reducible refine (impl_ratCmpX x x.1.1 (.slice a1 n1 c1) (.slice a2 n2 c2) y y.1.1 (.slice sa1 sn1 sc1) (.slice sa2 sn2 sc2) _ KX.out KY.out (Ty.at_more HA.out (Turns.more (by repeat (first | (with_reducible exact Turns.refl _ _) | (with_reducible apply Turns.drew) | (with_reducible apply Turns.drewN) | (with_reducible apply Turns.alloc) | (with_reducible refine Turns.via (by assumption) ?_))))) (Ty.at_more HA'.out (Turns.more (by repeat (first | (with_reducible exact Turns.refl _ _) | (with_reducible apply Turns.drew) | (with_reducible apply Turns.drewN) | (with_reducible apply Turns.alloc) | (with_reducible refine Turns.via (by assumption) ?_)))))).mono ?_); rintro e w2 ⟨rfl, hb2⟩; rw [C.out]))
        all_goals
          go_wp2_with fail
          go_roundw
          case rel => exact ⟨k + 1, by omega, by go_num, (Turns.more (by repeat (first | (with_reducible exact Turns.refl _ _) | (with_reducible apply Turns.drew) | (with_reducible apply Turns.drewN) | (with_reducible apply Turns.alloc) | (with_reducible refine Turns.via (by assumption) ?_)))), Lib.hid (fun i z y hi hz hy => by
            rcases Nat.lt_succ_iff_lt_or_eq.1 hi with h9 | rfl
            · exact HB.out i z y h9 hz hy
            · rw [HX.out] at hz; rw [HY.out] at hy; cases hz; cases hy; rw [C.out]; exact h)⟩
          case measure => simp [intOf]; omega
      · go_wp2_with fail
        go_region_held3 (fun w' => More wr w') (first | exact More.refl _ | exact (Turns.more (by repeat (first | (with_reducible exact Turns.refl _ _) | (with_reducible apply Turns.drew) | (with_reducible apply Turns.drewN) | (with_reducible apply Turns.alloc) | (with_reducible refine Turns.via (by assumption) ?_))))) (first | (go_at_call 98; (with_reducible refine (impl_ratCmpX x x.1.1 (.slice a1 n1 c1) (.slice a2 n2 c2) y y.1.1 (.slice sa1 sn1 sc1) (.slice sa2 sn2 sc2) _ KX.out KY.out (Ty.at_more HA.out (Turns.more (by repeat (first | (with_reducible exact Turns.refl _ _) | (with_reducible apply Turns.drew) | (with_reducible apply Turns.drewN) | (with_reducible apply Turns.alloc) | (with_reducible refine Turns.via (by assumption) ?_))))) (Ty.at_more HA'.out (Turns.more (by repeat (first | (with_reducible exact Turns.refl _ _) | (with_reducible apply Turns.drew) | (with_reducible apply Turns.drewN) | (with_reducible apply Turns.alloc) | (with_reducible refine Turns.via (by assumption) ?_)))))).mono ?_); rintro e w2 ⟨rfl, hb2⟩; rw [C.out]))
        all_goals
          go_wp2_with fail
          go_ret
          exact ⟨ret_bool (asc_no HX.out HY.out (by rw [C.out]; omega)).symm, (Turns.more (by repeat (first | (with_reducible exact Turns.refl _ _) | (with_reducible apply Turns.drew) | (with_reducible apply Turns.drewN) | (with_reducible apply Turns.alloc) | (with_reducible refine Turns.via (by assumption) ?_))))⟩
    · have hlt' : ¬ (k : Int) + 1 < (n : Int) := by omega
      go_wp2_with fail
      go_ret
      exact ⟨ret_bool (asc_yes (fun i x hx => all_ok KA.out hx) (fun i y x hy hx => HB.out i y x (by have := (List.getElem?_eq_some_iff.1 hx).1; have := HN.out; omega) hy hx)).symm, (Turns.more (by repeat (first | (with_reducible exact Turns.refl _ _) | (with_reducible apply Turns.drew) | (with_reducible apply Turns.drewN) | (with_reducible apply Turns.alloc) | (with_reducible refine Turns.via (by assumption) ?_))))⟩
set_option maxHeartbeats 3200000 in
theorem spec_IsAscending (v : Value) (l : List QR) (w : World) (hv : tRatS.at w [v] l) (hl : l.length ≤ 1048576 ∧ ∀ x ∈ l, wRat x ≤ 1048576) :
    Calls Try.prog 33 #[v] w fun e w' => e = .returned (.bool (ascB l)) ∧ More w w' := by
  obtain ⟨ao, cap, rfl⟩ := sl_len hv
  have HV := Lib.hid hv; have HL := Lib.hid hl; clear hv
  have hl' := hl.1
  clear hl
  obtain ⟨n, hn⟩ : ∃ n, n = l.length := ⟨_, rfl⟩
  rw [← hn] at HV hl' ⊢
  have HN := Lib.hid hn; clear hn
  go_enter Try.func33, Try.ntmps33
  go_wp2_with fail
  go_loopw [7] (fun i wr => ∃ k : Nat, k ≤ n ∧ i = .int .i64 (k : Int) ∧ More w wr ∧ Hid (∀ (i : Nat) (x : QR), i < k → l[i]? = some x → ratOkB x = true) ∧ Hid (∀ (i : Nat) (y x : QR), i + 1 < k → l[i]? = some y → l[i + 1]? = some x → rCmp y x < 0)) (fun i _ => n - (intOf i).toNat)
  case atStart => exact ⟨0, Nat.zero_le _, rfl, (Turns.more (by repeat (first | (with_reducible exact Turns.refl _ _) | (with_reducible apply Turns.drew) | (with_reducible apply Turns.drewN) | (with_reducible apply Turns.alloc) | (with_reducible refine Turns.via (by assumption) ?_)))), Lib.hid (fun i x hi => by omega), Lib.hid (fun i y x hi => by omega)⟩
  case round =>
    obtain ⟨k0, hk, rfl, hm, HA0, HB⟩ := hrel
    by_cases hlt : k0 < n
    · have hlt' : (k0 : Int) < (n : Int) := by omega
      by_cases hk0 : k0 = 0
      · subst hk0
        obtain ⟨b, off, y, sa1, sn1, sc1, sa2, sn2, sc2, rfl, hblt, hy, hat', q0, q1, q2⟩ := el_Rat (Ty.at_more HV.out hm) (k := 0) (by rw [← HN.out]; omega)
        simp only [Nat.zero_mul, Nat.add_zero] at q0 q1 q2
        have HY := Lib.hid hy; have HA' := Lib.hid hat'; have WY := Lib.hid (HL.out.2 y (List.mem_of_getElem? hy)); clear hy hat'
        rcases Bool.eq_false_or_eq_true (ratOkB y) with ky | ky
        · have KY := Lib.hid ky; clear ky
          go_wp2_with fail
          have HB2 : ∀ w', More (wr.alloc (.cells #[.bool y.1.1, .slice sa1 sn1 sc1, .slice sa2 sn2 sc2] 32)) w' → w'.cell? ⟨wr.heap.size, 0, none⟩ = some (.bool y.1.1) ∧ w'.cell? ⟨wr.heap.size, 1, none⟩ = some (.slice sa1 sn1 sc1) ∧ w'.cell? ⟨wr.heap.size, 2, none⟩ = some (.slice sa2 sn2 sc2) := fun w' h => ⟨box_new rfl h 0, box_new rfl h 1, box_new rfl h 2⟩
          refine wp_region_held_drew (S := (fun w' => More (wr.alloc (.cells #[.bool y.1.1, .slice sa1 sn1 sc1, .slice sa2 sn2 sc2] 32)) w')) (by kernel_rfl) ?_ (fun hHeld => ?_)
          · first | exact More.refl _ | exact (Turns.more (by repeat (first | (with_reducible exact Turns.refl _ _) | (with_reducible apply Turns.drew) | (with_reducible apply Turns.drewN) | (with_reducible apply Turns.alloc) | (with_reducible refine Turns.via (by assumption) ?_))))
          refine wpAnyH_take (i := 0) (oi := ⟨some 12, _, _, _, _, _⟩) (v := ?_) rfl (by kernel_rfl) (by kernel_rfl) (by kernel_rfl) (fun _ _ _ h => h) (Or.inl ⟨by rfl, ?_⟩) (by assumption) ?_
          rotate_left
          · (intro w hSw; (try dsimp only at hSw); go_simp; (try with_reducible rfl))
          (try simp only [Act.put, List.setIfInBounds_toArray, List.set_cons_zero, List.set_cons_succ])
          refine wpAnyH_ready (rs := [1]) (by kernel_rfl) (by simp) ?_
          refine AllReadyH.cons (o := ⟨some 13, _, _, _, _, _⟩) rfl (fun K hK => ?_) AllReadyH.nil
          go_simp
          (go_at_call 95; (with_reducible refine (spec_RatOk y.1.1 (.slice sa1 sn1 sc1) (.slice sa2 sn2 sc2) y _ (Ty.at_more HA'.out (Turns.more (by repeat (first | (with_reducible exact Turns.refl _ _) | (with_reducible apply Turns.drew) | (with_reducible apply Turns.drewN) | (with_reducible apply Turns.alloc) | (with_reducible refine Turns.via (by assumption) ?_))))) WY.out).mono ?_); rintro e w2 ⟨rfl, hb2⟩; rw [KY.out])
          refine hK.out _ _ ?_ (fun hHeld => ?_)
          · first | exact More.refl _ | exact (Turns.more (by repeat (first | (with_reducible exact Turns.refl _ _) | (with_reducible apply Turns.drew) | (with_reducible apply Turns.drewN) | (with_reducible apply Turns.alloc) | (with_reducible refine Turns.via (by assumption) ?_))))
          clear hK K
          (try simp only [Act.put, List.setIfInBounds_toArray, List.set_cons_zero, List.set_cons_succ])
          refine wpAnyH_take (i := 2) (oi := ⟨some 14, _, _, _, _, _⟩) (v := ?_) rfl (by kernel_rfl) (by kernel_rfl) (by kernel_rfl) (fun _ _ _ h => h) (Or.inl ⟨by rfl, ?_⟩) (by assumption) ?_
          rotate_left
          · (intro w hSw; (try dsimp only at hSw); go_simp; (try with_reducible rfl))
          (try simp only [Act.put, List.setIfInBounds_toArray, List.set_cons_zero, List.set_cons_succ])
          refine wpAnyH_take (i := 3) (oi := ⟨some 15, _, _, _, _, _⟩) (v := ?_) rfl (by kernel_rfl) (by kernel_rfl) (by kernel_rfl) (fun _ _ _ h => h) (Or.inl ⟨by rfl, ?_⟩) (by assumption) ?_
          rotate_left
          · (intro w hSw; (try dsimp only at hSw); go_simp; (try with_reducible rfl))
          (try simp only [Act.put, List.setIfInBounds_toArray, List.set_cons_zero, List.set_cons_succ])
          refine wpAnyH_take (i := 4) (oi := ⟨some 16, _, _, _, _, _⟩) (v := ?_) rfl (by kernel_rfl) (by kernel_rfl) (by kernel_rfl) (fun _ _ _ h => h) (Or.inl ⟨by rfl, ?_⟩) (by assumption) ?_
          rotate_left
          · (intro w hSw; (try dsimp only at hSw); go_simp; (try with_reducible rfl))
          (try simp only [Act.put, List.setIfInBounds_toArray, List.set_cons_zero, List.set_cons_succ])
          refine wpAnyH_take (i := 5) (oi := ⟨some 17, _, _, _, _, _⟩) (v := ?_) rfl (by kernel_rfl) (by kernel_rfl) (by kernel_rfl) (fun _ _ _ h => h) (Or.inl ⟨by rfl, ?_⟩) (by assumption) ?_
          rotate_left
          · (intro w hSw; (try dsimp only at hSw); go_simp; (try with_reducible rfl))
          (try simp only [Act.put, List.setIfInBounds_toArray, List.set_cons_zero, List.set_cons_succ])
          refine wpAnyH_take (i := 6) (oi := ⟨some 18, _, _, _, _, _⟩) (v := ?_) rfl (by kernel_rfl) (by kernel_rfl) (by kernel_rfl) (fun _ _ _ h => h) (Or.inl ⟨by rfl, ?_⟩) (by assumption) ?_
          rotate_left
          · (intro w hSw; (try dsimp only at hSw); go_simp; (try with_reducible rfl))
          (try simp only [Act.put, List.setIfInBounds_toArray, List.set_cons_zero, List.set_cons_succ])
          refine wpAnyH_take (i := 7) (oi := ⟨some 19, _, _, _, _, _⟩) (v := undef) rfl (by kernel_rfl) (by kernel_rfl) (by kernel_rfl) (fun _ _ _ h => h) (Or.inr ⟨by rfl, rfl⟩) (by assumption) ?_
          (try simp only [Act.put, List.setIfInBounds_toArray, List.set_cons_zero, List.set_cons_succ])
          refine wpAnyH_take (i := 8) (oi := ⟨some 20, _, _, _, _, _⟩) (v := undef) rfl (by kernel_rfl) (by kernel_rfl) (by kernel_rfl) (fun _ _ _ h => h) (Or.inr ⟨by rfl, rfl⟩) (by assumption) ?_
          (try simp only [Act.put, List.setIfInBounds_toArray, List.set_cons_zero, List.set_cons_succ])
          refine wpAnyH_take (i := 9) (oi := ⟨some 21, _, _, _, _, _⟩) (v := undef) rfl (by kernel_rfl) (by kernel_rfl) (by kernel_rfl) (fun _ _ _ h => h) (Or.inr ⟨by rfl, rfl⟩) (by assumption) ?_
          (try simp only [Act.put, List.setIfInBounds_toArray, List.set_cons_zero, List.set_cons_succ])
          refine wpAnyH_take (i := 10) (oi := ⟨some 22, _, _, _, _, _⟩) (v := undef) rfl (by kernel_rfl) (by kernel_rfl) (by kernel_rfl) (fun _ _ _ h => h) (Or.inr ⟨by rfl, rfl⟩) (by assumption) ?_
          (try simp only [Act.put, List.setIfInBounds_toArray, List.set_cons_zero, List.set_cons_succ])
          refine wpAnyH_take (i := 11) (oi := ⟨some 23, _, _, _, _, _⟩) (v := undef) rfl (by kernel_rfl) (by kernel_rfl) (by kernel_rfl) (fun _ _ _ h => h) (Or.inr ⟨by rfl, rfl⟩) (by assumption) ?_
          (try simp only [Act.put, List.setIfInBounds_toArray, List.set_cons_zero, List.set_cons_succ])
          refine wpAnyH_take (i := 12) (oi := ⟨some 24, _, _, _, _, _⟩) (v := undef) rfl (by kernel_rfl) (by kernel_rfl) (by kernel_rfl) (fun _ _ _ h => h) (Or.inr ⟨by rfl, rfl⟩) (by assumption) ?_
          (try simp only [Act.put, List.setIfInBounds_toArray, List.set_cons_zero, List.set_cons_succ])
          refine wpAnyH_take (i := 13) (oi := ⟨some 25, _, _, _, _, _⟩) (v := undef) rfl (by kernel_rfl) (by kernel_rfl) (by kernel_rfl) (fun _ _ _ h => h) (Or.inr ⟨by rfl, rfl⟩) (by assumption) ?_
          (try simp only [Act.put, List.setIfInBounds_toArray, List.set_cons_zero, List.set_cons_succ])
          refine wpAnyH_take (i := 14) (oi := ⟨some 26, _, _, _, _, _⟩) (v := undef) rfl (by kernel_rfl) (by kernel_rfl) (by kernel_rfl) (fun _ _ _ h => h) (Or.inr ⟨by rfl, rfl⟩) (by assumption) ?_
          (try simp only [Act.put, List.setIfInBounds_toArray, List.set_cons_zero, List.set_cons_succ])
          refine wpAnyH_take (i := 15) (oi := ⟨some 27, _, _, _, _, _⟩) (v := ?_) rfl (by kernel_rfl) (by kernel_rfl) (by kernel_rfl) (fun _ _ _ h => h) (Or.inl ⟨by rfl, ?_⟩) (by assumption) ?_
          rotate_left
          · (intro w hSw; (try dsimp only at hSw); go_simp; (try with_reducible rfl))
          (try simp only [Act.put, List.setIfInBounds_toArray, List.set_cons_zero, List.set_cons_succ])
          refine wpAnyH_take (i := 16) (oi := ⟨some 28, _, _, _, _, _⟩) (v := ?_) rfl (by kernel_rfl) (by kernel_rfl) (by kernel_rfl) (fun _ _ _ h => h) (Or.inl ⟨by rfl, ?_⟩) (by assumption) ?_
          rotate_left
          · (intro w hSw; (try dsimp only at hSw); go_simp; (try with_reducible rfl))
          (try simp only [Act.put, List.setIfInBounds_toArray, List.set_cons_zero, List.set_cons_succ])
          refine wpAnyH_done (by kernel_rfl) ?_ _
          go_wp2_with fail
          go_roundw
          case rel => exact ⟨1, by omega, by go_num, (Turns.more (by repeat (first | (with_reducible exact Turns.refl _ _) | (with_reducible apply Turns.drew) | (with_reducible apply Turns.drewN) | (with_reducible apply Turns.alloc) | (with_reducible refine Turns.via (by assumption) ?_)))), Lib.hid (fun i z hi hz => by obtain rfl : i = 0 := (by omega); rw [HY.out] at hz; cases hz; exact KY.out), Lib.hid (fun i z y hi => by omega)⟩
          case measure => simp [intOf]; omega
        · have KY := Lib.hid ky; clear ky
          go_wp2_with fail
          have HB2 : ∀ w', More (wr.alloc (.cells #[.bool y.1.1, .slice sa1 sn1 sc1, .slice sa2 sn2 sc2] 32)) w' → w'.cell? ⟨wr.heap.size, 0, none⟩ = some (.bool y.1.1) ∧ w'.cell? ⟨wr.heap.size, 1, none⟩ = some (.slice sa1 sn1 sc1) ∧ w'.cell? ⟨wr.heap.size, 2, none⟩ = some (.slice sa2 sn2 sc2) := fun w' h => ⟨box_new rfl h 0, box_new rfl h 1, box_new rfl h 2⟩
          refine wp_region_held_drew (S := (fun w' => More (wr.alloc (.cells #[.bool y.1.1, .slice sa1 sn1 sc1, .slice sa2 sn2 sc2] 32)) w')) (by kernel_rfl) ?_ (fun hHeld => ?_)
          · first | exact More.refl _ | exact (Turns.more (by repeat (first | (with_reducible exact Turns.refl _ _) | (with_reducible apply Turns.drew) | (with_reducible apply Turns.drewN) | (with_reducible apply Turns.alloc) | (with_reducible refine Turns.via (by assumption) ?_))))
          refine wpAnyH_take (i := 0) (oi := ⟨some 12, _, _, _, _, _⟩) (v := ?_) rfl (by kernel_rfl) (by kernel_rfl) (by kernel_rfl) (fun _ _ _ h => h) (Or.inl ⟨by rfl, ?_⟩) (by assumption) ?_
          rotate_left
          · (intro w hSw; (try dsimp only at hSw); go_simp; (try with_reducible rfl))
          (try simp only [Act.put, List.setIfInBounds_toArray, List.set_cons_zero, List.set_cons_succ])
          refine wpAnyH_ready (rs := [1]) (by kernel_rfl) (by simp) ?_
          refine AllReadyH.cons (o := ⟨some 13, _, _, _, _, _⟩) rfl (fun K hK => ?_) AllReadyH.nil
          go_simp
          (go_at_call 95; (with_reducible refine (spec_RatOk y.1.1 (.slice sa1 sn1 sc1) (.slice sa2 sn2 sc2) y _ (Ty.at_more HA'.out (Turns.more (by repeat (first | (with_reducible exact Turns.refl _ _) | (with_reducible apply Turns.drew) | (with_reducible apply Turns.drewN) | (with_reducible apply Turns.alloc) | (with_reducible refine Turns.via (by assumption) ?_))))) WY.out).mono ?_); rintro e w2 ⟨rfl, hb2⟩; rw [KY.out])
          refine hK.out _ _ ?_ (fun hHeld => ?_)
          · first | exact More.refl _ | exact (Turns.more (by repeat (first | (with_reducible exact Turns.refl _ _) | (with_reducible apply Turns.drew) | (with_reducible apply Turns.drewN) | (with_reducible apply Turns.alloc) | (with_reducible refine Turns.via (by assumption) ?_))))
          clear hK K
          (try simp only [Act.put, List.setIfInBounds_toArray, List.set_cons_zero, List.set_cons_succ])
          refine wpAnyH_take (i := 2) (oi := ⟨some 14, _, _, _, _, _⟩) (v := ?_) rfl (by kernel_rfl) (by kernel_rfl) (by kernel_rfl) (fun _ _ _ h => h) (Or.inl ⟨by rfl, ?_⟩) (by assumption) ?_
          rotate_left
          · (intro w hSw; (try dsimp only at hSw); go_simp; (try with_reducible rfl))
          (try simp only [Act.put, List.setIfInBounds_toArray, List.set_cons_zero, List.set_cons_succ])
          refine wpAnyH_take (i := 3) (oi := ⟨some 15, _, _, _, _, _⟩) (v := ?_) rfl (by kernel_rfl) (by kernel_rfl) (by kernel_rfl) (fun _ _ _ h => h) (Or.inl ⟨by rfl, ?_⟩) (by assumption) ?_
          rotate_left
          · (intro w hSw; (try dsimp only at hSw); go_simp; (try with_reducible rfl))
          (try simp only [Act.put, List.setIfInBounds_toArray, List.set_cons_zero, List.set_cons_succ])
          refine wpAnyH_take (i := 4) (oi := ⟨some 16, _, _, _, _, _⟩) (v := undef) rfl (by kernel_rfl) (by kernel_rfl) (by kernel_rfl) (fun _ _ _ h => h) (Or.inr ⟨by rfl, rfl⟩) (by assumption) ?_
          (try simp only [Act.put, List.setIfInBounds_toArray, List.set_cons_zero, List.set_cons_succ])
          refine wpAnyH_take (i := 5) (oi := ⟨some 17, _, _, _, _, _⟩) (v := undef) rfl (by kernel_rfl) (by kernel_rfl) (by kernel_rfl) (fun _ _ _ h => h) (Or.inr ⟨by rfl, rfl⟩) (by assumption) ?_
          (try simp only [Act.put, List.setIfInBounds_toArray, List.set_cons_zero, List.set_cons_succ])
          refine wpAnyH_take (i := 6) (oi := ⟨some 18, _, _, _, _, _⟩) (v := undef) rfl (by kernel_rfl) (by kernel_rfl) (by kernel_rfl) (fun _ _ _ h => h) (Or.inr ⟨by rfl, rfl⟩) (by assumption) ?_
          (try simp only [Act.put, List.setIfInBounds_toArray, List.set_cons_zero, List.set_cons_succ])
          refine wpAnyH_take (i := 7) (oi := ⟨some 19, _, _, _, _, _⟩) (v := undef) rfl (by kernel_rfl) (by kernel_rfl) (by kernel_rfl) (fun _ _ _ h => h) (Or.inr ⟨by rfl, rfl⟩) (by assumption) ?_
          (try simp only [Act.put, List.setIfInBounds_toArray, List.set_cons_zero, List.set_cons_succ])
          refine wpAnyH_take (i := 8) (oi := ⟨some 20, _, _, _, _, _⟩) (v := undef) rfl (by kernel_rfl) (by kernel_rfl) (by kernel_rfl) (fun _ _ _ h => h) (Or.inr ⟨by rfl, rfl⟩) (by assumption) ?_
          (try simp only [Act.put, List.setIfInBounds_toArray, List.set_cons_zero, List.set_cons_succ])
          refine wpAnyH_take (i := 9) (oi := ⟨some 21, _, _, _, _, _⟩) (v := undef) rfl (by kernel_rfl) (by kernel_rfl) (by kernel_rfl) (fun _ _ _ h => h) (Or.inr ⟨by rfl, rfl⟩) (by assumption) ?_
          (try simp only [Act.put, List.setIfInBounds_toArray, List.set_cons_zero, List.set_cons_succ])
          refine wpAnyH_take (i := 10) (oi := ⟨some 22, _, _, _, _, _⟩) (v := undef) rfl (by kernel_rfl) (by kernel_rfl) (by kernel_rfl) (fun _ _ _ h => h) (Or.inr ⟨by rfl, rfl⟩) (by assumption) ?_
          (try simp only [Act.put, List.setIfInBounds_toArray, List.set_cons_zero, List.set_cons_succ])
          refine wpAnyH_take (i := 11) (oi := ⟨some 23, _, _, _, _, _⟩) (v := undef) rfl (by kernel_rfl) (by kernel_rfl) (by kernel_rfl) (fun _ _ _ h => h) (Or.inr ⟨by rfl, rfl⟩) (by assumption) ?_
          (try simp only [Act.put, List.setIfInBounds_toArray, List.set_cons_zero, List.set_cons_succ])
          refine wpAnyH_take (i := 12) (oi := ⟨some 24, _, _, _, _, _⟩) (v := undef) rfl (by kernel_rfl) (by kernel_rfl) (by kernel_rfl) (fun _ _ _ h => h) (Or.inr ⟨by rfl, rfl⟩) (by assumption) ?_
          (try simp only [Act.put, List.setIfInBounds_toArray, List.set_cons_zero, List.set_cons_succ])
          refine wpAnyH_take (i := 13) (oi := ⟨some 25, _, _, _, _, _⟩) (v := undef) rfl (by kernel_rfl) (by kernel_rfl) (by kernel_rfl) (fun _ _ _ h => h) (Or.inr ⟨by rfl, rfl⟩) (by assumption) ?_
          (try simp only [Act.put, List.setIfInBounds_toArray, List.set_cons_zero, List.set_cons_succ])
          refine wpAnyH_take (i := 14) (oi := ⟨some 26, _, _, _, _, _⟩) (v := undef) rfl (by kernel_rfl) (by kernel_rfl) (by kernel_rfl) (fun _ _ _ h => h) (Or.inr ⟨by rfl, rfl⟩) (by assumption) ?_
          (try simp only [Act.put, List.setIfInBounds_toArray, List.set_cons_zero, List.set_cons_succ])
          refine wpAnyH_take (i := 15) (oi := ⟨some 27, _, _, _, _, _⟩) (v := undef) rfl (by kernel_rfl) (by kernel_rfl) (by kernel_rfl) (fun _ _ _ h => h) (Or.inr ⟨by rfl, rfl⟩) (by assumption) ?_
          (try simp only [Act.put, List.setIfInBounds_toArray, List.set_cons_zero, List.set_cons_succ])
          refine wpAnyH_take (i := 16) (oi := ⟨some 28, _, _, _, _, _⟩) (v := ?_) rfl (by kernel_rfl) (by kernel_rfl) (by kernel_rfl) (fun _ _ _ h => h) (Or.inl ⟨by rfl, ?_⟩) (by assumption) ?_
          rotate_left
          · (intro w hSw; (try dsimp only at hSw); go_simp; (try with_reducible rfl))
          (try simp only [Act.put, List.setIfInBounds_toArray, List.set_cons_zero, List.set_cons_succ])
          refine wpAnyH_done (by kernel_rfl) ?_ _
          go_wp2_with fail
          go_ret
          exact ⟨ret_bool (asc_bad HY.out KY.out).symm, (Turns.more (by repeat (first | (with_reducible exact Turns.refl _ _) | (with_reducible apply Turns.drew) | (with_reducible apply Turns.drewN) | (with_reducible apply Turns.alloc) | (with_reducible refine Turns.via (by assumption) ?_))))⟩
      obtain ⟨k, rfl⟩ : ∃ k, k0 = k + 1 := ⟨k0 - 1, by omega⟩
      have hlt2 : (k : Int) < (n : Int) := by omega
      have hi0 : (0 : Int) ≤ (k : Int) := by omega
      have hi2 : (0 : Int) ≤ (k : Int) + 1 := by omega
      have g6 : IntKind.i64.wrap (↑k + 1 - 1) = (↑k : Int) := by rw [IntKind.wrap_i64]; omega
      have g13 : IntKind.i64.wrap (↑k : Int) = ↑k := by rw [IntKind.wrap_i64]; omega
      have g14 : IntKind.i64.wrap (↑k + 1 : Int) = ↑k + 1 := by rw [IntKind.wrap_i64]; omega
      obtain ⟨b, off, y, sa1, sn1, sc1, sa2, sn2, sc2, rfl, hblt, hy, hat', q0, q1, q2⟩ := el_Rat (Ty.at_more HV.out hm) (k := k + 1) (by rw [← HN.out]; omega)
      obtain ⟨b', off', x, a1, n1, c1, a2, n2, c2, e9, -, hx, hat, p0, p1, p2⟩ := el_Rat (Ty.at_more HV.out hm) (k := k) (by rw [← HN.out]; omega)
      cases e9
      have HX := Lib.hid hx; have HY := Lib.hid hy; have HA := Lib.hid hat; have HA' := Lib.hid hat'; clear hx hy hat hat'
      have WX := Lib.hid (HL.out.2 x (List.mem_of_getElem? HX.out)); have WY := Lib.hid (HL.out.2 y (List.mem_of_getElem? HY.out))
      have C0 : ∀ w', More wr w' → w'.cell? ⟨b, off + k * 3, none⟩ = some (.bool x.1.1) := fun w' h => ((bcell h).1 _ _ hblt).trans p0
      have C1 : ∀ w', More wr w' → w'.cell? ⟨b, off + k * 3 + 1, none⟩ = some (.slice a1 n1 c1) := fun w' h => ((bcell h).1 _ _ hblt).trans p1
      have C2 : ∀ w', More wr w' → w'.cell? ⟨b, off + k * 3 + 2, none⟩ = some (.slice a2 n2 c2) := fun w' h => ((bcell h).1 _ _ hblt).trans p2
      obtain ⟨c, hc⟩ : ∃ c, rCmp x y = c := ⟨_, rfl⟩
      have C := Lib.hid hc; clear hc
      have e0 : ((k + 1 : Nat) : Int) = (k : Int) + 1 := by omega
      have hpos : (0 : Int) < (k : Int) + 1 := by omega
      rw [e0]
      rcases Bool.eq_false_or_eq_true (ratOkB y) with ky | ky
      rotate_left
      · have KY := Lib.hid ky; clear ky
        go_wp2_with fail
        have HB2 : ∀ w', More (wr.alloc (.cells #[.bool y.1.1, .slice sa1 sn1 sc1, .slice sa2 sn2 sc2] 32)) w' → w'.cell? ⟨wr.heap.size, 0, none⟩ = some (.bool y.1.1) ∧ w'.cell? ⟨wr.heap.size, 1, none⟩ = some (.slice sa1 sn1 sc1) ∧ w'.cell? ⟨wr.heap.size, 2, none⟩ = some (.slice sa2 sn2 sc2) := fun w' h => ⟨box_new rfl h 0, box_new rfl h 1, box_new rfl h 2⟩
        have HB3 : ∀ w', More (wr.alloc (.cells #[.bool y.1.1, .slice sa1 sn1 sc1, .slice sa2 sn2 sc2] 32)) w' → w'.cell? ⟨b, off + k * 3, none⟩ = some (.bool x.1.1) ∧ w'.cell? ⟨b, off + k * 3 + 1, none⟩ = some (.slice a1 n1 c1) ∧ w'.cell? ⟨b, off + k * 3 + 2, none⟩ = some (.slice a2 n2 c2) := fun w' h => ⟨C0 w' (More.un h), C1 w' (More.un h), C2 w' (More.un h)⟩
        refine wp_region_held_drew (S := (fun w' => More (wr.alloc (.cells #[.bool y.1.1, .slice sa1 sn1 sc1, .slice sa2 sn2 sc2] 32)) w')) (by kernel_rfl) ?_ (fun hHeld => ?_)
        · first | exact More.refl _ | exact (Turns.more (by repeat (first | (with_reducible exact Turns.refl _ _) | (with_reducible apply Turns.drew) | (with_reducible apply Turns.drewN) | (with_reducible apply Turns.alloc) | (with_reducible refine Turns.via (by assumption) ?_))))
        refine wpAnyH_take (i := 0) (oi := ⟨some 12, _, _, _, _, _⟩) (v := ?_) rfl (by kernel_rfl) (by kernel_rfl) (by kernel_rfl) (fun _ _ _ h => h) (Or.inl ⟨by rfl, ?_⟩) (by assumption) ?_
        rotate_left
        · (intro w hSw; (try dsimp only at hSw); go_simp; (try with_reducible rfl))
        (try simp only [Act.put, List.setIfInBounds_toArray, List.set_cons_zero, List.set_cons_succ])
        refine wpAnyH_ready (rs := [1]) (by kernel_rfl) (by simp) ?_
        refine AllReadyH.cons (o := ⟨some 13, _, _, _, _, _⟩) rfl (fun K hK => ?_) AllReadyH.nil
        go_simp
        (go_at_call 95; (with_reducible refine (spec_RatOk y.1.1 (.slice sa1 sn1 sc1) (.slice sa2 sn2 sc2) y _ (Ty.at_more HA'.out (Turns.more (by repeat (first | (with_reducible exact Turns.refl _ _) | (with_reducible apply Turns.drew) | (with_reducible apply Turns.drewN) | (with_reducible apply Turns.alloc) | (with_reducible refine Turns.via (by assumption) ?_))))) WY.out).mono ?_); rintro e w2 ⟨rfl, hb2⟩; rw [KY.out])
        refine hK.out _ _ ?_ (fun hHeld => ?_)
        · first | exact More.refl _ | exact (Turns.more (by repeat (first | (with_reducible exact Turns.refl _ _) | (with_reducible apply Turns.drew) | (with_reducible apply Turns.drewN) | (with_reducible apply Turns.alloc) | (with_reducible refine Turns.via (by assumption) ?_))))
        clear hK K
        (try simp only [Act.put, List.setIfInBounds_toArray, List.set_cons_zero, List.set_cons_succ])
        refine wpAnyH_take (i := 2) (oi := ⟨some 14, _, _, _, _, _⟩) (v := ?_) rfl (by kernel_rfl) (by kernel_rfl) (by kernel_rfl) (fun _ _ _ h => h) (Or.inl ⟨by rfl, ?_⟩) (by assumption) ?_
        rotate_left
        · (intro w hSw; (try dsimp only at hSw); go_simp; (try with_reducible rfl))
        (try simp only [Act.put, List.setIfInBounds_toArray, List.set_cons_zero, List.set_cons_succ])
        refine wpAnyH_take (i := 3) (oi := ⟨some 15, _, _, _, _, _⟩) (v := ?_) rfl (by kernel_rfl) (by kernel_rfl) (by kernel_rfl) (fun _ _ _ h => h) (Or.inl ⟨by rfl, ?_⟩) (by assumption) ?_
        rotate_left
        · (intro w hSw; (try dsimp only at hSw); go_simp; (try with_reducible rfl))
        (try simp only [Act.put, List.setIfInBounds_toArray, List.set_cons_zero, List.set_cons_succ])
        refine wpAnyH_take (i := 4) (oi := ⟨some 16, _, _, _, _, _⟩) (v := undef) rfl (by kernel_rfl) (by kernel_rfl) (by kernel_rfl) (fun _ _ _ h => h) (Or.inr ⟨by rfl, rfl⟩) (by assumption) ?_
        (try simp only [Act.put, List.setIfInBounds_toArray, List.set_cons_zero, List.set_cons_succ])
        refine wpAnyH_take (i := 5) (oi := ⟨some 17, _, _, _, _, _⟩) (v := undef) rfl (by kernel_rfl) (by kernel_rfl) (by kernel_rfl) (fun _ _ _ h => h) (Or.inr ⟨by rfl, rfl⟩) (by assumption) ?_
        (try simp only [Act.put, List.setIfInBounds_toArray, List.set_cons_zero, List.set_cons_succ])
        refine wpAnyH_take (i := 6) (oi := ⟨some 18, _, _, _, _, _⟩) (v := undef) rfl (by kernel_rfl) (by kernel_rfl) (by kernel_rfl) (fun _ _ _ h => h) (Or.inr ⟨by rfl, rfl⟩) (by assumption) ?_
        (try simp only [Act.put, List.setIfInBounds_toArray, List.set_cons_zero, List.set_cons_succ])
        refine wpAnyH_take (i := 7) (oi := ⟨some 19, _, _, _, _, _⟩) (v := undef) rfl (by kernel_rfl) (by kernel_rfl) (by kernel_rfl) (fun _ _ _ h => h) (Or.inr ⟨by rfl, rfl⟩) (by assumption) ?_
        (try simp only [Act.put, List.setIfInBounds_toArray, List.set_cons_zero, List.set_cons_succ])
        refine wpAnyH_take (i := 8) (oi := ⟨some 20, _, _, _, _, _⟩) (v := undef) rfl (by kernel_rfl) (by kernel_rfl) (by kernel_rfl) (fun _ _ _ h => h) (Or.inr ⟨by rfl, rfl⟩) (by assumption) ?_
        (try simp only [Act.put, List.setIfInBounds_toArray, List.set_cons_zero, List.set_cons_succ])
        refine wpAnyH_take (i := 9) (oi := ⟨some 21, _, _, _, _, _⟩) (v := undef) rfl (by kernel_rfl) (by kernel_rfl) (by kernel_rfl) (fun _ _ _ h => h) (Or.inr ⟨by rfl, rfl⟩) (by assumption) ?_
        (try simp only [Act.put, List.setIfInBounds_toArray, List.set_cons_zero, List.set_cons_succ])
        refine wpAnyH_take (i := 10) (oi := ⟨some 22, _, _, _, _, _⟩) (v := undef) rfl (by kernel_rfl) (by kernel_rfl) (by kernel_rfl) (fun _ _ _ h => h) (Or.inr ⟨by rfl, rfl⟩) (by assumption) ?_
        (try simp only [Act.put, List.setIfInBounds_toArray, List.set_cons_zero, List.set_cons_succ])
        refine wpAnyH_take (i := 11) (oi := ⟨some 23, _, _, _, _, _⟩) (v := undef) rfl (by kernel_rfl) (by kernel_rfl) (by kernel_rfl) (fun _ _ _ h => h) (Or.inr ⟨by rfl, rfl⟩) (by assumption) ?_
        (try simp only [Act.put, List.setIfInBounds_toArray, List.set_cons_zero, List.set_cons_succ])
        refine wpAnyH_take (i := 12) (oi := ⟨some 24, _, _, _, _, _⟩) (v := undef) rfl (by kernel_rfl) (by kernel_rfl) (by kernel_rfl) (fun _ _ _ h => h) (Or.inr ⟨by rfl, rfl⟩) (by assumption) ?_
        (try simp only [Act.put, List.setIfInBounds_toArray, List.set_cons_zero, List.set_cons_succ])
        refine wpAnyH_take (i := 13) (oi := ⟨some 25, _, _, _, _, _⟩) (v := undef) rfl (by kernel_rfl) (by kernel_rfl) (by kernel_rfl) (fun _ _ _ h => h) (Or.inr ⟨by rfl, rfl⟩) (by assumption) ?_
        (try simp only [Act.put, List.setIfInBounds_toArray, List.set_cons_zero, List.set_cons_succ])
        refine wpAnyH_take (i := 14) (oi := ⟨some 26, _, _, _, _, _⟩) (v := undef) rfl (by kernel_rfl) (by kernel_rfl) (by kernel_rfl) (fun _ _ _ h => h) (Or.inr ⟨by rfl, rfl⟩) (by assumption) ?_
        (try simp only [Act.put, List.setIfInBounds_toArray, List.set_cons_zero, List.set_cons_succ])
        refine wpAnyH_take (i := 15) (oi := ⟨some 27, _, _, _, _, _⟩) (v := undef) rfl (by kernel_rfl) (by kernel_rfl) (by kernel_rfl) (fun _ _ _ h => h) (Or.inr ⟨by rfl, rfl⟩) (by assumption) ?_
        (try simp only [Act.put, List.setIfInBounds_toArray, List.set_cons_zero, List.set_cons_succ])
        refine wpAnyH_take (i := 16) (oi := ⟨some 28, _, _, _, _, _⟩) (v := ?_) rfl (by kernel_rfl) (by kernel_rfl) (by kernel_rfl) (fun _ _ _ h => h) (Or.inl ⟨by rfl, ?_⟩) (by assumption) ?_
        rotate_left
        · (intro w hSw; (try dsimp only at hSw); go_simp; (try with_reducible rfl))
        (try simp only [Act.put, List.setIfInBounds_toArray, List.set_cons_zero, List.set_cons_succ])
        refine wpAnyH_done (by kernel_rfl) ?_ _
        go_wp2_with fail
        go_ret
        exact ⟨ret_bool (asc_bad HY.out KY.out).symm, (Turns.more (by repeat (first | (with_reducible exact Turns.refl _ _) | (with_reducible apply Turns.drew) | (with_reducible apply Turns.drewN) | (with_reducible apply Turns.alloc) | (with_reducible refine Turns.via (by assumption) ?_))))⟩
      have KY := Lib.hid ky; clear ky
      rcases (show c < 0 ∨ 0 ≤ c by omega) with h | h
      · go_wp2_with fail
        have HB2 : ∀ w', More (wr.alloc (.cells #[.bool y.1.1, .slice sa1 sn1 sc1, .slice sa2 sn2 sc2] 32)) w' → w'.cell? ⟨wr.heap.size, 0, none⟩ = some (.bool y.1.1) ∧ w'.cell? ⟨wr.heap.size, 1, none⟩ = some (.slice sa1 sn1 sc1) ∧ w'.cell? ⟨wr.heap.size, 2, none⟩ = some (.slice sa2 sn2 sc2) := fun w' h => ⟨box_new rfl h 0, box_new rfl h 1, box_new rfl h 2⟩
        have HB3 : ∀ w', More (wr.alloc (.cells #[.bool y.1.1, .slice sa1 sn1 sc1, .slice sa2 sn2 sc2] 32)) w' → w'.cell? ⟨b, off + k * 3, none⟩ = some (.bool x.1.1) ∧ w'.cell? ⟨b, off + k * 3 + 1, none⟩ = some (.slice a1 n1 c1) ∧ w'.cell? ⟨b, off + k * 3 + 2, none⟩ = some (.slice a2 n2 c2) := fun w' h => ⟨C0 w' (More.un h), C1 w' (More.un h), C2 w' (More.un h)⟩
        go_region_held3 (fun w' => More (wr.alloc (.cells #[.bool y.1.1, .slice sa1 sn1 sc1, .slice sa2 sn2 sc2] 32)) w') (first | exact More.refl _ | exact (Turns.more (by repeat (first | (with_reducible exact Turns.refl _ _) | (with_reducible apply Turns.drew) | (with_reducible apply Turns.drewN) | (with_reducible apply Turns.alloc) | (with_reducible refine Turns.via (by assumption) ?_))))) (first | (go_at_call 95; (with_reducible refine (spec_RatOk y.1.1 (.slice sa1 sn1 sc1) (.slice sa2 sn2 sc2) y _ (Ty.at_more HA'.out (Turns.more (by repeat (first | (with_reducible exact Turns.refl _ _) | (with_reducible apply Turns.drew) | (with_reducible apply Turns.drewN) | (with_reducible apply Turns.alloc) | (with_reducible refine Turns.via (by assumption) ?_))))) WY.out).mono ?_); rintro e w2 ⟨rfl, hb2⟩; rw [KY.out]) | (go_at_call 96; (with_reducible refine (spec_RatCmpX x x.1.1 (.slice a1 n1 c1) (.slice a2 n2 c2) y y.1.1 (.slice sa1 sn1 sc1) (.slice sa2 sn2 sc2) _ (Ty.at_more HA.out (Turns.more (by repeat (first | (with_reducible exact Turns.refl _ _) | (with_reducible apply Turns.drew) | (with_reducible apply Turns.drewN) | (with_reducible apply Turns.alloc) | (with_reducible refine Turns.via (by assumption) ?_))))) WX.out (Ty.at_more HA'.out (Turns.more (by repeat (first | (with_reducible exact Turns.refl _ _) | (with_reducible apply Turns.drew) | (with_reducible apply Turns.drewN) | (with_reducible apply Turns.alloc) | (with_reducible refine Turns.via (by assumption) ?_))))) WY.out).mono ?_); rintro e w3 ⟨rfl, hb3⟩; rw [C.out]))
        all_goals
          go_wp2_with fail
          go_roundw
          case rel => exact ⟨k + 1 + 1, by omega, by go_num, (Turns.more (by repeat (first | (with_reducible exact Turns.refl _ _) | (with_reducible apply Turns.drew) | (with_reducible apply Turns.drewN) | (with_reducible apply Turns.alloc) | (with_reducible refine Turns.via (by assumption) ?_)))), Lib.hid (fun i z hi hz => by
            rcases Nat.lt_succ_iff_lt_or_eq.1 hi with h9 | rfl
            · exact HA0.out i z h9 hz
            · rw [HY.out] at hz; cases hz; exact KY.out), Lib.hid (fun i z y' hi hz hy => by
            rcases Nat.lt_succ_iff_lt_or_eq.1 hi with h9 | h9
            · exact HB.out i z y' h9 hz hy
            · obtain rfl : i = k := by omega
              rw [HX.out] at hz; rw [HY.out] at hy; cases hz; cases hy; rw [C.out]; exact h)⟩
          case measure => simp [intOf]; omega
      · go_wp2_with fail
        have HB2 : ∀ w', More (wr.alloc (.cells #[.bool y.1.1, .slice sa1 sn1 sc1, .slice sa2 sn2 sc2] 32)) w' → w'.cell? ⟨wr.heap.size, 0, none⟩ = some (.bool y.1.1) ∧ w'.cell? ⟨wr.heap.size, 1, none⟩ = some (.slice sa1 sn1 sc1) ∧ w'.cell? ⟨wr.heap.size, 2, none⟩ = some (.slice sa2 sn2 sc2) := fun w' h => ⟨box_new rfl h 0, box_new rfl h 1, box_new rfl h 2⟩
        have HB3 : ∀ w', More (wr.alloc (.cells #[.bool y.1.1, .slice sa1 sn1 sc1, .slice sa2 sn2 sc2] 32)) w' → w'.cell? ⟨b, off + k * 3, none⟩ = some (.bool x.1.1) ∧ w'.cell? ⟨b, off + k * 3 + 1, none⟩ = some (.slice a1 n1 c1) ∧ w'.cell? ⟨b, off + k * 3 + 2, none⟩ = some (.slice a2 n2 c2) := fun w' h => ⟨C0 w' (More.un h), C1 w' (More.un h), C2 w' (More.un h)⟩
        go_region_held3 (fun w' => More (wr.alloc (.cells #[.bool y.1.1, .slice sa1 sn1 sc1, .slice sa2 sn2 sc2] 32)) w') (first | exact More.refl _ | exact (Turns.more (by repeat (first | (with_reducible exact Turns.refl _ _) | (with_reducible apply Turns.drew) | (with_reducible apply Turns.drewN) | (with_reducible apply Turns.alloc) | (with_reducible refine Turns.via (by assumption) ?_))))) (first | (go_at_call 95; (with_reducible refine (spec_RatOk y.1.1 (.slice sa1 sn1 sc1) (.slice sa2 sn2 sc2) y _ (Ty.at_more HA'.out (Turns.more (by repeat (first | (with_reducible exact Turns.refl _ _) | (with_reducible apply Turns.drew) | (with_reducible apply Turns.drewN) | (with_reducible apply Turns.alloc) | (with_reducible refine Turns.via (by assumption) ?_))))) WY.out).mono ?_); rintro e w2 ⟨rfl, hb2⟩; rw [KY.out]) | (go_at_call 96; (with_reducible refine (spec_RatCmpX x x.1.1 (.slice a1 n1 c1) (.slice a2 n2 c2) y y.1.1 (.slice sa1 sn1 sc1) (.slice sa2 sn2 sc2) _ (Ty.at_more HA.out (Turns.more (by repeat (first | (with_reducible exact Turns.refl _ _) | (with_reducible apply Turns.drew) | (with_reducible apply Turns.drewN) | (with_reducible apply Turns.alloc) | (with_reducible refine Turns.via (by assumption) ?_))))) WX.out (Ty.at_more HA'.out (Turns.more (by repeat (first | (with_reducible exact Turns.refl _ _) | (with_reducible apply Turns.drew) | (with_reducible apply Turns.drewN) | (with_reducible apply Turns.alloc) | (with_reducible refine Turns.via (by assumption) ?_))))) WY.out).mono ?_); rintro e w3 ⟨rfl, hb3⟩; rw [C.out]))
        all_goals
          go_wp2_with fail
          go_ret
          exact ⟨ret_bool (asc_no HX.out HY.out (by rw [C.out]; omega)).symm, (Turns.more (by repeat (first | (with_reducible exact Turns.refl _ _) | (with_reducible apply Turns.drew) | (with_reducible apply Turns.drewN) | (with_reducible apply Turns.alloc) | (with_reducible refine Turns.via (by assumption) ?_))))⟩
    · have hlt' : ¬ (k0 : Int) < (n : Int) := by omega
      go_wp2_with fail
      go_ret
      exact ⟨ret_bool (asc_yes (fun i x hx => HA0.out i x (by have := (List.getElem?_eq_some_iff.1 hx).1; have := HN.out; omega) hx) (fun i y x hy hx => HB.out i y x (by have := (List.getElem?_eq_some_iff.1 hx).1; have := HN.out; omega) hy hx)).symm, (Turns.more (by repeat (first | (with_reducible exact Turns.refl _ _) | (with_reducible apply Turns.drew) | (with_reducible apply Turns.drewN) | (with_reducible apply Turns.alloc) | (with_reducible refine Turns.via (by assumption) ?_))))⟩
end Go.Proofs.Ytkhcblheekfdmaa
