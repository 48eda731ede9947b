/- Several texts laid together; each has its own word at its head. -/
import Derived.Test.YtnbefpfijaimjaaGreatDoorGInt
import Derived.Test.YtnbefpfijaimjaaGreatDoorGBase
/- Points: valid ones. -/
namespace Go.Proofs.YtnbefpfijaimjaaGreatDoor
open Go.RowKit
noncomputable def pointB (x : QP) : Bool := ratOkB x.1 && ratOkB x.2
/-- Valid fractions that compare as equal are the same. -/
theorem good_eq {f g : Fr} (hf : Good f) (hg : Good g) (h : f.1 * (g.2 : Int) = g.1 * (f.2 : Int)) : f = g := by
  have h1 : f.1.natAbs * g.2 = g.1.natAbs * f.2 := by
    have := congrArg Int.natAbs h
    rwa [Int.natAbs_mul, Int.natAbs_mul, Int.natAbs_natCast, Int.natAbs_natCast] at this
  have d1 : f.2 ∣ g.2 := (Nat.Coprime.symm hf.2.1 : Nat.Coprime f.2 f.1.natAbs).dvd_of_dvd_mul_left (h1 ▸ Nat.dvd_mul_left _ _)
  have d2 : g.2 ∣ f.2 := (Nat.Coprime.symm hg.2.1 : Nat.Coprime g.2 g.1.natAbs).dvd_of_dvd_mul_left (h1 ▸ Nat.dvd_mul_left _ _)
  have e2 := Nat.dvd_antisymm d1 d2
  have hz : (f.2 : Int) ≠ 0 := by have := hf.1; omega
  rw [← e2] at h
  have e1 := Int.eq_of_mul_eq_mul_right hz h
  exact Prod.ext e1 e2
theorem rCmp_zero {x y : QR} (hx : ratOkB x = true) (hy : ratOkB y = true) : rCmp x y = 0 ↔ x = y := by
  obtain ⟨f, h1, rfl⟩ := ratOk_fr hx
  obtain ⟨g, h2, rfl⟩ := ratOk_fr hy
  unfold rCmp
  rw [frOf_good h1, frOf_good h2, frCmp, if_neg (fun h => h.elim h1.1 h2.1), cmpI_zero]
  exact ⟨fun h => by rw [good_eq h1 h2 h], fun h => by rw [encR_inj h]⟩
set_option maxRecDepth 4000 in
set_option maxHeartbeats 6400000 in
theorem impl_IsValidPoint (cs0 : List Value) (s t : QR) (w : World) (hv0 : tPoint.at w cs0 (s, t)) (hw0 : wPoint (s, t) ≤ 1048576) :
    Calls Tryz.prog 63 #[.agg cs0.toArray] w fun e w' => e = .returned (.bool (pointB (s, t))) ∧ More w w' := by
  obtain ⟨k0, d0, rfl, f0, e0⟩ := at_prod hv0
  have f1 := e0; clear e0
  have f0 : tRat.at w _ s := f0
  obtain ⟨sa, sn, sc, sd, sm, se, rfl⟩ := sh_Rat f0
  have Hs := Lib.hid f0; clear f0
  try clear f0
  have Ws : Hid (wRat s ≤ 1048576) := Lib.hid (by have h := hw0; unfold wPoint at h; dsimp only at h; omega)
  have f1 : tRat.at w _ t := f1
  obtain ⟨ta, tn, tc, td, tm, te, rfl⟩ := sh_Rat f1
  have Ht := Lib.hid f1; clear f1
  try clear f1
  have Wt : Hid (wRat t ≤ 1048576) := Lib.hid (by have h := hw0; unfold wPoint at h; dsimp only at h; omega)
  try clear e0 e1
  have HV0 : Hid (tPoint.at w [.bool s.1.1, .slice sa sn sc, .slice sd sm se, .bool t.1.1, .slice ta tn tc, .slice td tm te] (s, t)) := Lib.hid hv0; have HW0 := Lib.hid hw0; clear hv0 hw0
  show Calls Tryz.prog 63 #[.agg #[.bool s.1.1, .slice sa sn sc, .slice sd sm se, .bool t.1.1, .slice ta tn tc, .slice td tm te]] w _
  rcases Bool.eq_false_or_eq_true (ratOkB s) with Ksk | Ksk
  rotate_left
  · have Ks := Lib.hid Ksk; clear Ksk
    have HX : More (w.alloc (.cells #[.bool s.1.1, .slice sa sn sc, .slice sd sm se, .bool t.1.1, .slice ta tn tc, .slice td tm te] 28)) (w.alloc (.cells #[.bool s.1.1, .slice sa sn sc, .slice sd sm se, .bool t.1.1, .slice ta tn tc, .slice td tm te] 28)) := More.refl _
    have HB : ∀ w', More (w.alloc (.cells #[.bool s.1.1, .slice sa sn sc, .slice sd sm se, .bool t.1.1, .slice ta tn tc, .slice td tm te] 28)) w' → w'.cell? ⟨w.heap.size, 0, none⟩ = some (.bool s.1.1) ∧ w'.cell? ⟨w.heap.size, 1, none⟩ = some (.slice sa sn sc) ∧ w'.cell? ⟨w.heap.size, 2, none⟩ = some (.slice sd sm se) ∧ w'.cell? ⟨w.heap.size, 3, none⟩ = some (.bool t.1.1) ∧ w'.cell? ⟨w.heap.size, 4, none⟩ = some (.slice ta tn tc) ∧ w'.cell? ⟨w.heap.size, 5, none⟩ = some (.slice td tm te) ∧ (∀ j, w'.frozen? ⟨w.heap.size, j, none⟩ = false) := fun w' h => ⟨box_new (by simp) h 0, box_new (by simp) h 1, box_new (by simp) h 2, box_new (by simp) h 3, box_new (by simp) h 4, box_new (by simp) h 5, fun j => box_free (by simp) h j⟩
    go_enter Tryz.func63, Tryz.ntmps63
    go_wp2_with (first | (go_at_call 47; (with_reducible refine (impl_RatOk s.1.1 (.slice sa sn sc) (.slice sd sm se) s _ (Ty.at_more Hs.out mC) Ws.out).mono ?_); rintro e w1 ⟨rfl, hb1⟩; have HX1 : More (w.alloc (.cells #[.bool s.1.1, .slice sa sn sc, .slice sd sm se, .bool t.1.1, .slice ta tn tc, .slice td tm te] 28)) w1 := mC; have HB1 := HB _ HX1; have hz1 := More.size HX1; (try simp at hz1); have hb1 := hb1; rw [Ks.out]))
    skip
    go_ret
    exact ⟨ret_bool (by simp [pointB, Ks.out]), mC⟩
  have Ks := Lib.hid Ksk; clear Ksk
  rcases Bool.eq_false_or_eq_true (ratOkB t) with Ktk | Ktk
  rotate_left
  · have Kt := Lib.hid Ktk; clear Ktk
    have HX : More (w.alloc (.cells #[.bool s.1.1, .slice sa sn sc, .slice sd sm se, .bool t.1.1, .slice ta tn tc, .slice td tm te] 28)) (w.alloc (.cells #[.bool s.1.1, .slice sa sn sc, .slice sd sm se, .bool t.1.1, .slice ta tn tc, .slice td tm te] 28)) := More.refl _
    have HB : ∀ w', More (w.alloc (.cells #[.bool s.1.1, .slice sa sn sc, .slice sd sm se, .bool t.1.1, .slice ta tn tc, .slice td tm te] 28)) w' → w'.cell? ⟨w.heap.size, 0, none⟩ = some (.bool s.1.1) ∧ w'.cell? ⟨w.heap.size, 1, none⟩ = some (.slice sa sn sc) ∧ w'.cell? ⟨w.heap.size, 2, none⟩ = some (.slice sd sm se) ∧ w'.cell? ⟨w.heap.size, 3, none⟩ = some (.bool t.1.1) ∧ w'.cell? ⟨w.heap.size, 4, none⟩ = some (.slice ta tn tc) ∧ w'.cell? ⟨w.heap.size, 5, none⟩ = some (.slice td tm te) ∧ (∀ j, w'.frozen? ⟨w.heap.size, j, none⟩ = false) := fun w' h => ⟨box_new (by simp) h 0, box_new (by simp) h 1, box_new (by simp) h 2, box_new (by simp) h 3, box_new (by simp) h 4, box_new (by simp) h 5, fun j => box_free (by simp) h j⟩
    go_enter Tryz.func63, Tryz.ntmps63
    go_wp2_with (first | (go_at_call 47; (with_reducible refine (impl_RatOk s.1.1 (.slice sa sn sc) (.slice sd sm se) s _ (Ty.at_more Hs.out mC) Ws.out).mono ?_); rintro e w1 ⟨rfl, hb1⟩; have HX1 : More (w.alloc (.cells #[.bool s.1.1, .slice sa sn sc, .slice sd sm se, .bool t.1.1, .slice ta tn tc, .slice td tm te] 28)) w1 := mC; have HB1 := HB _ HX1; have hz1 := More.size HX1; (try simp at hz1); have hb1 := hb1; rw [Ks.out]) | (go_at_call 47; (with_reducible refine (impl_RatOk t.1.1 (.slice ta tn tc) (.slice td tm te) t _ (Ty.at_more Ht.out mC) Wt.out).mono ?_); rintro e w2 ⟨rfl, hb2⟩; have HX2 : More (w.alloc (.cells #[.bool s.1.1, .slice sa sn sc, .slice sd sm se, .bool t.1.1, .slice ta tn tc, .slice td tm te] 28)) w2 := mC; have HB2 := HB _ HX2; have hz2 := More.size HX2; (try simp at hz2); have hb2 := hb2; rw [Kt.out]))
    skip
    go_ret
    exact ⟨ret_bool (by simp [pointB, Ks.out, Kt.out]), mC⟩
  have Kt := Lib.hid Ktk; clear Ktk
  have HX : More (w.alloc (.cells #[.bool s.1.1, .slice sa sn sc, .slice sd sm se, .bool t.1.1, .slice ta tn tc, .slice td tm te] 28)) (w.alloc (.cells #[.bool s.1.1, .slice sa sn sc, .slice sd sm se, .bool t.1.1, .slice ta tn tc, .slice td tm te] 28)) := More.refl _
  have HB : ∀ w', More (w.alloc (.cells #[.bool s.1.1, .slice sa sn sc, .slice sd sm se, .bool t.1.1, .slice ta tn tc, .slice td tm te] 28)) w' → w'.cell? ⟨w.heap.size, 0, none⟩ = some (.bool s.1.1) ∧ w'.cell? ⟨w.heap.size, 1, none⟩ = some (.slice sa sn sc) ∧ w'.cell? ⟨w.heap.size, 2, none⟩ = some (.slice sd sm se) ∧ w'.cell? ⟨w.heap.size, 3, none⟩ = some (.bool t.1.1) ∧ w'.cell? ⟨w.heap.size, 4, none⟩ = some (.slice ta tn tc) ∧ w'.cell? ⟨w.heap.size, 5, none⟩ = some (.slice td tm te) ∧ (∀ j, w'.frozen? ⟨w.heap.size, j, none⟩ = false) := fun w' h => ⟨box_new (by simp) h 0, box_new (by simp) h 1, box_new (by simp) h 2, box_new (by simp) h 3, box_new (by simp) h 4, box_new (by simp) h 5, fun j => box_free (by simp) h j⟩
  go_enter Tryz.func63, Tryz.ntmps63
  go_wp2_with (first | (go_at_call 47; (with_reducible refine (impl_RatOk s.1.1 (.slice sa sn sc) (.slice sd sm se) s _ (Ty.at_more Hs.out mC) Ws.out).mono ?_); rintro e w1 ⟨rfl, hb1⟩; have HX1 : More (w.alloc (.cells #[.bool s.1.1, .slice sa sn sc, .slice sd sm se, .bool t.1.1, .slice ta tn tc, .slice td tm te] 28)) w1 := mC; have HB1 := HB _ HX1; have hz1 := More.size HX1; (try simp at hz1); have hb1 := hb1; rw [Ks.out]) | (go_at_call 47; (with_reducible refine (impl_RatOk t.1.1 (.slice ta tn tc) (.slice td tm te) t _ (Ty.at_more Ht.out mC) Wt.out).mono ?_); rintro e w2 ⟨rfl, hb2⟩; have HX2 : More (w.alloc (.cells #[.bool s.1.1, .slice sa sn sc, .slice sd sm se, .bool t.1.1, .slice ta tn tc, .slice td tm te] 28)) w2 := mC; have HB2 := HB _ HX2; have hz2 := More.size HX2; (try simp at hz2); have hb2 := hb2; rw [Kt.out]))
  skip
  go_ret
  exact ⟨ret_bool (by first | (simp [pointB, Ks.out, Kt.out]; done) | (simp [pointB, Ks.out, Kt.out] <;> omega)), mC⟩
noncomputable def badP (x : QP) : Bool := !pointB x
set_option maxRecDepth 4000 in
set_option maxHeartbeats 6400000 in
theorem impl_arePoints_1 (cs0 : List Value) (s t : QR) (w : World) (hv0 : tPoint.at w cs0 (s, t)) (hw0 : wPoint (s, t) ≤ 1048576) :
    Calls Tryz.prog 62 #[.agg cs0.toArray] w fun e w' => e = .returned (.bool (badP (s, t))) ∧ More w w' := by
  obtain ⟨k0, d0, rfl, f0, e0⟩ := at_prod hv0
  have f1 := e0; clear e0
  have f0 : tRat.at w _ s := f0
  obtain ⟨sa, sn, sc, sd, sm, se, rfl⟩ := sh_Rat f0
  have Hs := Lib.hid f0; clear f0
  try clear f0
  have Ws : Hid (wRat s ≤ 1048576) := Lib.hid (by have h := hw0; unfold wPoint at h; dsimp only at h; omega)
  have f1 : tRat.at w _ t := f1
  obtain ⟨ta, tn, tc, td, tm, te, rfl⟩ := sh_Rat f1
  have Ht := Lib.hid f1; clear f1
  try clear f1
  have Wt : Hid (wRat t ≤ 1048576) := Lib.hid (by have h := hw0; unfold wPoint at h; dsimp only at h; omega)
  try clear e0 e1
  have HV0 : Hid (tPoint.at w [.bool s.1.1, .slice sa sn sc, .slice sd sm se, .bool t.1.1, .slice ta tn tc, .slice td tm te] (s, t)) := Lib.hid hv0; have HW0 := Lib.hid hw0; clear hv0 hw0
  show Calls Tryz.prog 62 #[.agg #[.bool s.1.1, .slice sa sn sc, .slice sd sm se, .bool t.1.1, .slice ta tn tc, .slice td tm te]] w _
  have HX : More (w.alloc (.cells #[.bool s.1.1, .slice sa sn sc, .slice sd sm se, .bool t.1.1, .slice ta tn tc, .slice td tm te] 28)) (w.alloc (.cells #[.bool s.1.1, .slice sa sn sc, .slice sd sm se, .bool t.1.1, .slice ta tn tc, .slice td tm te] 28)) := More.refl _
  have HB : ∀ w', More (w.alloc (.cells #[.bool s.1.1, .slice sa sn sc, .slice sd sm se, .bool t.1.1, .slice ta tn tc, .slice td tm te] 28)) w' → w'.cell? ⟨w.heap.size, 0, none⟩ = some (.bool s.1.1) ∧ w'.cell? ⟨w.heap.size, 1, none⟩ = some (.slice sa sn sc) ∧ w'.cell? ⟨w.heap.size, 2, none⟩ = some (.slice sd sm se) ∧ w'.cell? ⟨w.heap.size, 3, none⟩ = some (.bool t.1.1) ∧ w'.cell? ⟨w.heap.size, 4, none⟩ = some (.slice ta tn tc) ∧ w'.cell? ⟨w.heap.size, 5, none⟩ = some (.slice td tm te) ∧ (∀ j, w'.frozen? ⟨w.heap.size, j, none⟩ = false) := fun w' h => ⟨box_new (by simp) h 0, box_new (by simp) h 1, box_new (by simp) h 2, box_new (by simp) h 3, box_new (by simp) h 4, box_new (by simp) h 5, fun j => box_free (by simp) h j⟩
  go_enter Tryz.func62, Tryz.ntmps62
  go_wp2_with (first | (go_at_call 63; refine (impl_IsValidPoint [.bool s.1.1, .slice sa sn sc, .slice sd sm se, .bool t.1.1, .slice ta tn tc, .slice td tm te] s t _ (Ty.at_more HV0.out mC) HW0.out).mono ?_; rintro e w1 ⟨rfl, hb1⟩; have HX1 : More (w.alloc (.cells #[.bool s.1.1, .slice sa sn sc, .slice sd sm se, .bool t.1.1, .slice ta tn tc, .slice td tm te] 28)) w1 := mC; have HB1 := HB _ HX1; have hz1 := More.size HX1; (try simp at hz1); have hb1 := hb1))
  go_ret
  exact ⟨rfl, mC⟩
set_option maxHeartbeats 1600000 in
theorem indexFunc_arePoints (v : Value) (l : List (QP)) (w : World)  (hv : tPointS.at w [v] l) (hl : l.length ≤ 1048576 ∧ ∀ x ∈ l, wPoint x ≤ 1048576) :
    Calls Tryz.prog 95 #[v, .func (.func 62) #[] #[]] w fun e w' => e = .returned (.int .i64 (idxI badP l)) ∧ More w w' := by
  obtain ⟨ao, cap, rfl⟩ := sl_len hv
  have HV := Lib.hid hv; clear hv
  have HWl := Lib.hid hl.2
  have hl := hl.1
  have Q : Hid (∀ W, More w W → True) := Lib.hid (fun W h => trivial)
  skip
  obtain ⟨n, hn⟩ : ∃ n, n = l.length := ⟨_, rfl⟩
  rw [← hn] at HV hl ⊢
  have HN := Lib.hid hn; clear hn
  go_enter Tryz.func95, Tryz.ntmps95
  go_wp2_with fail
  go_loopw [8] (fun i wr => ∃ k : Nat, k ≤ n ∧ i = .int .i64 k ∧ More w wr ∧ Hid (∀ (i : Nat) y, i < k → l[i]? = some y → badP y = false)) (fun i _ => n - (intOf i).toNat)
  case atStart => exact ⟨0, Nat.zero_le _, rfl, More.refl _, Lib.hid (fun i y hi => by omega)⟩
  case round =>
    obtain ⟨k, hk, rfl, hm, HB⟩ := hrel
    by_cases hlt : k < n
    · obtain ⟨b, off, x, a1, n1, c1, a2, n2, c2, a4, n4, c4, a5, n5, c5, rfl, hblt, hx, hat, c0_, c1_, c2_, c3_, c4_, c5_⟩ := el_Point (Ty.at_more HV.out hm) (k := k) (by rw [← HN.out]; exact hlt)
      have HX := Lib.hid hx; have HA := Lib.hid hat; clear hx hat
      rcases Bool.eq_false_or_eq_true (badP x) with hd | hd
      all_goals
        have HD := Lib.hid hd
        go_wp2_with fail
        refine (impl_arePoints_1 _ x.1 x.2 _ (Ty.at_more HA.out mC) (HWl.out x (List.mem_of_getElem? HX.out))).mono ?_
        rintro e w1 ⟨rfl, hb1⟩
        rw [HD.out]
        go_wp2_with fail
      · go_ret
        exact ⟨ret_int (idxI_found HB.out HX.out HD.out).symm, mC⟩
      · go_roundw
        case rel => exact ⟨k + 1, by omega, by go_num, mC, Lib.hid (fun i z hi hz => by
          rcases Nat.lt_succ_iff_lt_or_eq.1 hi with h | rfl
          · exact HB.out i z h hz
          · rw [HX.out] at hz; cases hz; exact HD.out)⟩
        case measure => simp [intOf]; omega
    · go_wp2_with fail
      go_ret
      exact ⟨ret_int (idxI_none (fun i z hz => HB.out i z (by have := (List.getElem?_eq_some_iff.1 hz).1; have := HN.out; omega) hz)).symm, hm⟩
set_option maxHeartbeats 800000 in
theorem containsFunc_arePoints (v : Value) (l : List (QP)) (w : World)  (hv : tPointS.at w [v] l) (hl : l.length ≤ 1048576 ∧ ∀ x ∈ l, wPoint x ≤ 1048576) :
    Calls Tryz.prog 61 #[v, .func (.func 62) #[] #[]] w fun e w' => e = .returned (.bool (l.any badP)) ∧ More w w' := by
  have C := Lib.hid (indexFunc_arePoints v l w  hv hl)
  clear hv hl 
  go_enter Tryz.func61, Tryz.ntmps61
  go_wp2_with (go_at_call 95; refine C.out.mono ?_; rintro e w1 ⟨rfl, hb1⟩)
  go_ret
  exact ⟨ret_bool idxI_nonneg, mC⟩
set_option maxHeartbeats 400000 in
theorem impl_arePoints (v : Value) (l : List QP) (w : World) (hv : tPointS.at w [v] l) (hl : l.length ≤ 1048576 ∧ ∀ x ∈ l, wPoint x ≤ 1048576) :
    Calls Tryz.prog 31 #[v] w fun e w' => e = .returned (.bool (l.all pointB)) ∧ More w w' := by
  have HV := Lib.hid hv; clear hv
  have HL := Lib.hid hl; clear hl
  go_enter Tryz.func31, Tryz.ntmps31
  go_wp2_with (go_at_call 61; refine (containsFunc_arePoints _ l _ HV.out HL.out).mono ?_; rintro e w1 ⟨rfl, hb1⟩)
  go_ret
  exact ⟨ret_bool (by rw [List.not_any_eq_all_not]; congr 1; funext x; simp [badP]), mC⟩
theorem pointB_parts {s t : QR} (h : pointB (s, t) = true) : ratOkB s = true ∧ ratOkB t = true := by
  unfold pointB at h
  rw [Bool.and_eq_true] at h
  exact h
end Go.Proofs.YtnbefpfijaimjaaGreatDoor
/- The cells of boxes, in few words. It speaks of no program. -/
namespace Go.Proofs.YtnbefpfijaimjaaGreatDoor
open Go.RowKit
theorem bx1 {X w : World} {c0 : Value} {t : TypeId} (N : Nat) (hN : X.heap.size = N) (h : More (X.alloc (.cells #[c0] t)) w) : w.cell? ⟨N, 0, none⟩ = some c0 ∧ (∀ j, w.frozen? ⟨N, j, none⟩ = false) := ⟨box_new hN h 0, fun j => box_free hN h j⟩
theorem bt1 {X Y w : World} {bs : List Nat} {c0 : Value} {t : TypeId} (N : Nat) (hN : X.heap.size = N) (hY : More (X.alloc (.cells #[c0] t)) Y) (h : Turns bs Y w) (hs : N < Y.heap.size) (hn : N ∉ bs) : w.cell? ⟨N, 0, none⟩ = some c0 := cell_heap (box_new hN hY 0) (h.block _ hs hn)
theorem bx2 {X w : World} {c0 c1 : Value} {t : TypeId} (N : Nat) (hN : X.heap.size = N) (h : More (X.alloc (.cells #[c0, c1] t)) w) : w.cell? ⟨N, 0, none⟩ = some c0 ∧ w.cell? ⟨N, 1, none⟩ = some c1 ∧ (∀ j, w.frozen? ⟨N, j, none⟩ = false) := ⟨box_new hN h 0, box_new hN h 1, fun j => box_free hN h j⟩
theorem bt2 {X Y w : World} {bs : List Nat} {c0 c1 : Value} {t : TypeId} (N : Nat) (hN : X.heap.size = N) (hY : More (X.alloc (.cells #[c0, c1] t)) Y) (h : Turns bs Y w) (hs : N < Y.heap.size) (hn : N ∉ bs) : w.cell? ⟨N, 0, none⟩ = some c0 ∧ w.cell? ⟨N, 1, none⟩ = some c1 := ⟨cell_heap (box_new hN hY 0) (h.block _ hs hn), cell_heap (box_new hN hY 1) (h.block _ hs hn)⟩
theorem bx3 {X w : World} {c0 c1 c2 : Value} {t : TypeId} (N : Nat) (hN : X.heap.size = N) (h : More (X.alloc (.cells #[c0, c1, c2] t)) w) : w.cell? ⟨N, 0, none⟩ = some c0 ∧ w.cell? ⟨N, 1, none⟩ = some c1 ∧ w.cell? ⟨N, 2, none⟩ = some c2 ∧ (∀ j, w.frozen? ⟨N, j, none⟩ = false) := ⟨box_new hN h 0, box_new hN h 1, box_new hN h 2, fun j => box_free hN h j⟩
theorem bt3 {X Y w : World} {bs : List Nat} {c0 c1 c2 : Value} {t : TypeId} (N : Nat) (hN : X.heap.size = N) (hY : More (X.alloc (.cells #[c0, c1, c2] t)) Y) (h : Turns bs Y w) (hs : N < Y.heap.size) (hn : N ∉ bs) : w.cell? ⟨N, 0, none⟩ = some c0 ∧ w.cell? ⟨N, 1, none⟩ = some c1 ∧ w.cell? ⟨N, 2, none⟩ = some c2 := ⟨cell_heap (box_new hN hY 0) (h.block _ hs hn), cell_heap (box_new hN hY 1) (h.block _ hs hn), cell_heap (box_new hN hY 2) (h.block _ hs hn)⟩
theorem bx4 {X w : World} {c0 c1 c2 c3 : Value} {t : TypeId} (N : Nat) (hN : X.heap.size = N) (h : More (X.alloc (.cells #[c0, c1, c2, c3] t)) w) : w.cell? ⟨N, 0, none⟩ = some c0 ∧ w.cell? ⟨N, 1, none⟩ = some c1 ∧ w.cell? ⟨N, 2, none⟩ = some c2 ∧ w.cell? ⟨N, 3, none⟩ = some c3 ∧ (∀ j, w.frozen? ⟨N, j, none⟩ = false) := ⟨box_new hN h 0, box_new hN h 1, box_new hN h 2, box_new hN h 3, fun j => box_free hN h j⟩
theorem bt4 {X Y w : World} {bs : List Nat} {c0 c1 c2 c3 : Value} {t : TypeId} (N : Nat) (hN : X.heap.size = N) (hY : More (X.alloc (.cells #[c0, c1, c2, c3] t)) Y) (h : Turns bs Y w) (hs : N < Y.heap.size) (hn : N ∉ bs) : w.cell? ⟨N, 0, none⟩ = some c0 ∧ w.cell? ⟨N, 1, none⟩ = some c1 ∧ w.cell? ⟨N, 2, none⟩ = some c2 ∧ w.cell? ⟨N, 3, none⟩ = some c3 := ⟨cell_heap (box_new hN hY 0) (h.block _ hs hn), cell_heap (box_new hN hY 1) (h.block _ hs hn), cell_heap (box_new hN hY 2) (h.block _ hs hn), cell_heap (box_new hN hY 3) (h.block _ hs hn)⟩
theorem bx6 {X w : World} {c0 c1 c2 c3 c4 c5 : Value} {t : TypeId} (N : Nat) (hN : X.heap.size = N) (h : More (X.alloc (.cells #[c0, c1, c2, c3, c4, c5] t)) w) : w.cell? ⟨N, 0, none⟩ = some c0 ∧ w.cell? ⟨N, 1, none⟩ = some c1 ∧ w.cell? ⟨N, 2, none⟩ = some c2 ∧ w.cell? ⟨N, 3, none⟩ = some c3 ∧ w.cell? ⟨N, 4, none⟩ = some c4 ∧ w.cell? ⟨N, 5, none⟩ = some c5 ∧ (∀ j, w.frozen? ⟨N, j, none⟩ = false) := ⟨box_new hN h 0, box_new hN h 1, box_new hN h 2, box_new hN h 3, box_new hN h 4, box_new hN h 5, fun j => box_free hN h j⟩
theorem bt6 {X Y w : World} {bs : List Nat} {c0 c1 c2 c3 c4 c5 : Value} {t : TypeId} (N : Nat) (hN : X.heap.size = N) (hY : More (X.alloc (.cells #[c0, c1, c2, c3, c4, c5] t)) Y) (h : Turns bs Y w) (hs : N < Y.heap.size) (hn : N ∉ bs) : w.cell? ⟨N, 0, none⟩ = some c0 ∧ w.cell? ⟨N, 1, none⟩ = some c1 ∧ w.cell? ⟨N, 2, none⟩ = some c2 ∧ w.cell? ⟨N, 3, none⟩ = some c3 ∧ w.cell? ⟨N, 4, none⟩ = some c4 ∧ w.cell? ⟨N, 5, none⟩ = some c5 := ⟨cell_heap (box_new hN hY 0) (h.block _ hs hn), cell_heap (box_new hN hY 1) (h.block _ hs hn), cell_heap (box_new hN hY 2) (h.block _ hs hn), cell_heap (box_new hN hY 3) (h.block _ hs hn), cell_heap (box_new hN hY 4) (h.block _ hs hn), cell_heap (box_new hN hY 5) (h.block _ hs hn)⟩
theorem bx9 {X w : World} {c0 c1 c2 c3 c4 c5 c6 c7 c8 : Value} {t : TypeId} (N : Nat) (hN : X.heap.size = N) (h : More (X.alloc (.cells #[c0, c1, c2, c3, c4, c5, c6, c7, c8] t)) w) : w.cell? ⟨N, 0, none⟩ = some c0 ∧ w.cell? ⟨N, 1, none⟩ = some c1 ∧ w.cell? ⟨N, 2, none⟩ = some c2 ∧ w.cell? ⟨N, 3, none⟩ = some c3 ∧ w.cell? ⟨N, 4, none⟩ = some c4 ∧ w.cell? ⟨N, 5, none⟩ = some c5 ∧ w.cell? ⟨N, 6, none⟩ = some c6 ∧ w.cell? ⟨N, 7, none⟩ = some c7 ∧ w.cell? ⟨N, 8, none⟩ = some c8 ∧ (∀ j, w.frozen? ⟨N, j, none⟩ = false) := ⟨box_new hN h 0, box_new hN h 1, box_new hN h 2, box_new hN h 3, box_new hN h 4, box_new hN h 5, box_new hN h 6, box_new hN h 7, box_new hN h 8, fun j => box_free hN h j⟩
theorem bt9 {X Y w : World} {bs : List Nat} {c0 c1 c2 c3 c4 c5 c6 c7 c8 : Value} {t : TypeId} (N : Nat) (hN : X.heap.size = N) (hY : More (X.alloc (.cells #[c0, c1, c2, c3, c4, c5, c6, c7, c8] t)) Y) (h : Turns bs Y w) (hs : N < Y.heap.size) (hn : N ∉ bs) : w.cell? ⟨N, 0, none⟩ = some c0 ∧ w.cell? ⟨N, 1, none⟩ = some c1 ∧ w.cell? ⟨N, 2, none⟩ = some c2 ∧ w.cell? ⟨N, 3, none⟩ = some c3 ∧ w.cell? ⟨N, 4, none⟩ = some c4 ∧ w.cell? ⟨N, 5, none⟩ = some c5 ∧ w.cell? ⟨N, 6, none⟩ = some c6 ∧ w.cell? ⟨N, 7, none⟩ = some c7 ∧ w.cell? ⟨N, 8, none⟩ = some c8 := ⟨cell_heap (box_new hN hY 0) (h.block _ hs hn), cell_heap (box_new hN hY 1) (h.block _ hs hn), cell_heap (box_new hN hY 2) (h.block _ hs hn), cell_heap (box_new hN hY 3) (h.block _ hs hn), cell_heap (box_new hN hY 4) (h.block _ hs hn), cell_heap (box_new hN hY 5) (h.block _ hs hn), cell_heap (box_new hN hY 6) (h.block _ hs hn), cell_heap (box_new hN hY 7) (h.block _ hs hn), cell_heap (box_new hN hY 8) (h.block _ hs hn)⟩
theorem bx18 {X w : World} {c0 c1 c2 c3 c4 c5 c6 c7 c8 c9 c10 c11 c12 c13 c14 c15 c16 c17 : Value} {t : TypeId} (N : Nat) (hN : X.heap.size = N) (h : More (X.alloc (.cells #[c0, c1, c2, c3, c4, c5, c6, c7, c8, c9, c10, c11, c12, c13, c14, c15, c16, c17] t)) w) : w.cell? ⟨N, 0, none⟩ = some c0 ∧ w.cell? ⟨N, 1, none⟩ = some c1 ∧ w.cell? ⟨N, 2, none⟩ = some c2 ∧ w.cell? ⟨N, 3, none⟩ = some c3 ∧ w.cell? ⟨N, 4, none⟩ = some c4 ∧ w.cell? ⟨N, 5, none⟩ = some c5 ∧ w.cell? ⟨N, 6, none⟩ = some c6 ∧ w.cell? ⟨N, 7, none⟩ = some c7 ∧ w.cell? ⟨N, 8, none⟩ = some c8 ∧ w.cell? ⟨N, 9, none⟩ = some c9 ∧ w.cell? ⟨N, 10, none⟩ = some c10 ∧ w.cell? ⟨N, 11, none⟩ = some c11 ∧ w.cell? ⟨N, 12, none⟩ = some c12 ∧ w.cell? ⟨N, 13, none⟩ = some c13 ∧ w.cell? ⟨N, 14, none⟩ = some c14 ∧ w.cell? ⟨N, 15, none⟩ = some c15 ∧ w.cell? ⟨N, 16, none⟩ = some c16 ∧ w.cell? ⟨N, 17, none⟩ = some c17 ∧ (∀ j, w.frozen? ⟨N, j, none⟩ = false) := ⟨box_new hN h 0, box_new hN h 1, box_new hN h 2, box_new hN h 3, box_new hN h 4, box_new hN h 5, box_new hN h 6, box_new hN h 7, box_new hN h 8, box_new hN h 9, box_new hN h 10, box_new hN h 11, box_new hN h 12, box_new hN h 13, box_new hN h 14, box_new hN h 15, box_new hN h 16, box_new hN h 17, fun j => box_free hN h j⟩
theorem bt18 {X Y w : World} {bs : List Nat} {c0 c1 c2 c3 c4 c5 c6 c7 c8 c9 c10 c11 c12 c13 c14 c15 c16 c17 : Value} {t : TypeId} (N : Nat) (hN : X.heap.size = N) (hY : More (X.alloc (.cells #[c0, c1, c2, c3, c4, c5, c6, c7, c8, c9, c10, c11, c12, c13, c14, c15, c16, c17] t)) Y) (h : Turns bs Y w) (hs : N < Y.heap.size) (hn : N ∉ bs) : w.cell? ⟨N, 0, none⟩ = some c0 ∧ w.cell? ⟨N, 1, none⟩ = some c1 ∧ w.cell? ⟨N, 2, none⟩ = some c2 ∧ w.cell? ⟨N, 3, none⟩ = some c3 ∧ w.cell? ⟨N, 4, none⟩ = some c4 ∧ w.cell? ⟨N, 5, none⟩ = some c5 ∧ w.cell? ⟨N, 6, none⟩ = some c6 ∧ w.cell? ⟨N, 7, none⟩ = some c7 ∧ w.cell? ⟨N, 8, none⟩ = some c8 ∧ w.cell? ⟨N, 9, none⟩ = some c9 ∧ w.cell? ⟨N, 10, none⟩ = some c10 ∧ w.cell? ⟨N, 11, none⟩ = some c11 ∧ w.cell? ⟨N, 12, none⟩ = some c12 ∧ w.cell? ⟨N, 13, none⟩ = some c13 ∧ w.cell? ⟨N, 14, none⟩ = some c14 ∧ w.cell? ⟨N, 15, none⟩ = some c15 ∧ w.cell? ⟨N, 16, none⟩ = some c16 ∧ w.cell? ⟨N, 17, none⟩ = some c17 := ⟨cell_heap (box_new hN hY 0) (h.block _ hs hn), cell_heap (box_new hN hY 1) (h.block _ hs hn), cell_heap (box_new hN hY 2) (h.block _ hs hn), cell_heap (box_new hN hY 3) (h.block _ hs hn), cell_heap (box_new hN hY 4) (h.block _ hs hn), cell_heap (box_new hN hY 5) (h.block _ hs hn), cell_heap (box_new hN hY 6) (h.block _ hs hn), cell_heap (box_new hN hY 7) (h.block _ hs hn), cell_heap (box_new hN hY 8) (h.block _ hs hn), cell_heap (box_new hN hY 9) (h.block _ hs hn), cell_heap (box_new hN hY 10) (h.block _ hs hn), cell_heap (box_new hN hY 11) (h.block _ hs hn), cell_heap (box_new hN hY 12) (h.block _ hs hn), cell_heap (box_new hN hY 13) (h.block _ hs hn), cell_heap (box_new hN hY 14) (h.block _ hs hn), cell_heap (box_new hN hY 15) (h.block _ hs hn), cell_heap (box_new hN hY 16) (h.block _ hs hn), cell_heap (box_new hN hY 17) (h.block _ hs hn)⟩
theorem tkA {α : Type} {l : List α} {i : Nat} {x : α} : l.toArray.setIfInBounds i x = (l.set i x).toArray := by simp only [List.setIfInBounds_toArray]
theorem tkB {α : Type} {a b : α} {l : List α} : (a :: l).set 0 b = b :: l := by simp only [List.set_cons_zero]
theorem tkC {α : Type} {a b : α} {l : List α} {n : Nat} : (a :: l).set (n + 1) b = a :: l.set n b := by simp only [List.set_cons_succ]
end Go.Proofs.YtnbefpfijaimjaaGreatDoor
