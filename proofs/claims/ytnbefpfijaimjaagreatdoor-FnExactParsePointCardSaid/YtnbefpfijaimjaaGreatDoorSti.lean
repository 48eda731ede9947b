/- Fractions as texts: the reference's and the program's. -/
import Derived.Test.YtnbefpfijaimjaaGreatDoorSth
import Derived.Test.YtnbefpfijaimjaaGreatDoorRt
import Derived.Test.YtnbefpfijaimjaaGreatDoorGNum
import Derived.Deep.RegionHeld3
namespace Go.Proofs.YtnbefpfijaimjaaGreatDoor
open Go.RowKit
set_option maxRecDepth 8000 in
set_option maxHeartbeats 6400000 in
theorem impl_formatRat (f : Fr) (u v : Value) (w : World) (hg : Good f) (hv : tRat.at w [.bool (decide (f.1 < 0)), u, v] (encR f)) (ht : PowTab w) :
    Calls Tryz.prog 32 #[.agg #[.bool (decide (f.1 < 0)), u, v]] w fun e w' => e = .returned (.string (sB (fR f))) ∧ More w w' := by
  obtain ⟨_, h1, h2⟩ := rat_split hv
  have h1 : tInts.at w [u] (limbs f.1.natAbs) := h1
  have h2 : tInts.at w [v] (limbs f.2) := h2
  obtain ⟨a, n, c, rfl⟩ := sh1 h1
  obtain ⟨d, m, e, rfl⟩ := sh1 h2
  have HV := Lib.hid hv; have HV1 := Lib.hid h1; have HV2 := Lib.hid h2
  have HT := Lib.hid ht; clear ht
  clear hv h1 h2
  have HL1 : Hid ((limbs f.1.natAbs).length ≤ 24) := Lib.hid hg.vd.sm1
  have HL2 : Hid ((limbs f.2).length ≤ 24) := Lib.hid hg.vd.sm2
  clear hg
  have FB : Hid (∀ w, tInts.at w [.slice a n c] (limbs f.1.natAbs) → PowTab w → Calls Tryz.prog 65 #[.agg #[.bool (decide (f.1 < 0)), .slice a n c]] w fun e w' => e = .returned (.string (sB (fBig (encZ f.1)))) ∧ More w w') := Lib.hid (fun w hv ht => impl_formatBig (.slice a n c) (encZ f.1) w hv (Nat.le_trans HL1.out (by decide)) (limbs_isL _) ht)
  have FNN : Hid (∀ w, tInts.at w [.slice d m e] (limbs f.2) → PowTab w → Calls Tryz.prog 66 #[.slice d m e] w fun e w' => e = .returned (.string (sB (fN (limbs f.2)))) ∧ More w w') := Lib.hid (fun w hv ht => impl_formatNat (.slice d m e) (limbs f.2) w hv (Nat.le_trans HL2.out (by decide)) (limbs_isL _) ht)
  have HF1 : Hid ((fBig (encZ f.1)).length ≤ 620) := Lib.hid (fBig_len (limbs_isL _) (Nat.le_trans HL1.out (by decide)))
  have HF2 : Hid ((fN (limbs f.2)).length ≤ 610) := Lib.hid (fN_len (limbs_isL _) (Nat.le_trans HL2.out (by decide)))
  have hadd1 : ∀ w, (Op.stringOp .add (sB (fBig (encZ f.1))) ⟨#[47]⟩).run Tryz.prog w = .ok (.string (sB (fBig (encZ f.1) ++ [47]))) w := fun w => add_run _ _ [47] w (by have := HF1.out; simp; omega)
  have hadd2 : ∀ w, (Op.stringOp .add (sB (fBig (encZ f.1) ++ [47])) (sB (fN (limbs f.2)))).run Tryz.prog w = .ok (.string (sB (fBig (encZ f.1) ++ [47] ++ fN (limbs f.2)))) w := fun w => add_run _ _ _ w (by have := HF1.out; have := HF2.out; simp; omega)
  have HX : More (w.alloc (.cells #[.bool (decide (f.1 < 0)), .slice a n c, .slice d m e] 26)) (w.alloc (.cells #[.bool (decide (f.1 < 0)), .slice a n c, .slice d m e] 26)) := More.refl _
  have HB : ∀ w', More (w.alloc (.cells #[.bool (decide (f.1 < 0)), .slice a n c, .slice d m e] 26)) w' → w'.cell? ⟨w.heap.size, 0, none⟩ = some (.bool (decide (f.1 < 0))) ∧ w'.cell? ⟨w.heap.size, 1, none⟩ = some (.slice a n c) ∧ w'.cell? ⟨w.heap.size, 2, none⟩ = some (.slice d m e) ∧ (∀ j, w'.frozen? ⟨w.heap.size, j, none⟩ = false) := fun w' h => ⟨box_new (by simp) h 0, box_new (by simp) h 1, box_new (by simp) h 2, fun j => box_free (by simp) h j⟩
  rcases Bool.eq_false_or_eq_true (decide (f.2 = 1)) with hd | hd
  · have HD := Lib.hid hd; clear hd
    go_enter Tryz.func32, Tryz.ntmps32
    go_wp2_with (first | (go_at_call 64; refine (impl_isOne _ f.2 _ (Ty.at_more HV2.out mC)).mono ?_; rintro e9 w2 ⟨rfl, hb2⟩; rw [HD.out]; obtain ⟨p0, p1, p2, pf⟩ := HB w2 mC) | (go_at_call 65; refine (FB.out _ (Ty.at_more HV1.out mC) (HT.out.more mC)).mono ?_; rintro e9 w3 ⟨rfl, hb3⟩))
    go_ret
    exact ⟨by unfold fR; rw [if_pos (by simpa using HD.out)]; rfl, mC⟩
  · have HD := Lib.hid hd; clear hd
    go_enter Tryz.func32, Tryz.ntmps32
    go_wp2_with (first | (go_at_call 64; refine (impl_isOne _ f.2 _ (Ty.at_more HV2.out mC)).mono ?_; rintro e9 w2 ⟨rfl, hb2⟩; rw [HD.out]; obtain ⟨p0, p1, p2, pf⟩ := HB w2 mC))
    have R0 := fun (w' : World) (h : More w2 w') => HB w' (More.trans (show More _ w2 from mC) h)
    have R1 := fun (w' : World) (h : More w2 w') => (R0 w' h).1
    have R2 := fun (w' : World) (h : More w2 w') => (R0 w' h).2.1
    have R3 := fun (w' : World) (h : More w2 w') => (R0 w' h).2.2.1
    clear R0
    go_region_held3 (fun w' => More w2 w') (first | exact More.refl _ | exact mC) (first | (go_at_call 65; (with_reducible refine (FB.out _ (Ty.at_more HV1.out mC) (HT.out.more mC)).mono ?_); rintro e9 w3 ⟨rfl, hb3⟩) | (go_at_call 66; (with_reducible refine (FNN.out _ (Ty.at_more HV2.out mC) (HT.out.more mC)).mono ?_); rintro e9 w4 ⟨rfl, hb4⟩))
    all_goals
      go_wp2_with fail
      go_ret
      exact ⟨by unfold fR; rw [if_neg (by simpa using HD.out)]; first | rfl | (rw [show fBig (encZ f.1) ++ 47 :: fN (limbs f.2) = fBig (encZ f.1) ++ [47] ++ fN (limbs f.2) by rw [List.append_assoc]; rfl]; rfl), mC⟩
set_option maxRecDepth 8000 in
set_option maxHeartbeats 6400000 in
theorem spec_FormatRat (f : Fr) (u v : Value) (w : World) (hg : Good f) (hv : tRat.at w [.bool (decide (f.1 < 0)), u, v] (encR f)) :
    Calls Tryz.prog 43 #[.agg #[.bool (decide (f.1 < 0)), u, v]] w fun e w' => e = .returned (.string (sB (fR f))) ∧ More w w' := by
  obtain ⟨_, h1, h2⟩ := rat_split hv
  have h1 : tInts.at w [u] (limbs f.1.natAbs) := h1
  have h2 : tInts.at w [v] (limbs f.2) := h2
  obtain ⟨a, n, c, rfl⟩ := sh1 h1
  obtain ⟨d, m, e, rfl⟩ := sh1 h2
  have HV := Lib.hid hv; have HV1 := Lib.hid h1; have HV2 := Lib.hid h2
  clear hv h1 h2
  have HL1 : Hid ((limbs f.1.natAbs).length ≤ 24) := Lib.hid hg.vd.sm1
  have HL2 : Hid ((limbs f.2).length ≤ 24) := Lib.hid hg.vd.sm2
  have HNO : Hid (natOkB (limbs f.2) = true) := Lib.hid (by unfold natOkB; simpa using ⟨Nat.le_trans HL2.out (by decide), limbs_can f.2⟩)
  have HBO : Hid (bigOkB (encZ f.1) = true) := Lib.hid (by
    have h1 : natOkB (limbs f.1.natAbs) = true := by unfold natOkB; simpa using ⟨Nat.le_trans HL1.out (by decide), limbs_can f.1.natAbs⟩
    unfold bigOkB encZ
    rw [h1, Bool.true_and, Bool.not_eq_true', Bool.and_eq_false_iff]
    by_cases hneg : f.1 < 0
    · right
      rw [decide_eq_false_iff_not]
      show ¬ (limbs f.1.natAbs).length = 0
      rw [List.length_eq_zero_iff, limbs_nil]
      omega
    · left; simpa using hneg)
  have HRO : Hid (ratOkB (encR f) = true) := Lib.hid (ratOk_iff.2 ⟨f, hg, rfl⟩)
  have HW : Hid (wRat (encR f) ≤ 1048576) := Lib.hid (by unfold wRat wBigInt wIntS encR encZ; have h1 := HL1.out; have h2 := HL2.out; show (limbs f.1.natAbs).length + (limbs f.2).length ≤ 1048576; omega)
  clear hg
  have FB : Hid (∀ w, tInts.at w [.slice a n c] (limbs f.1.natAbs) → Calls Tryz.prog 82 #[.agg #[.bool (decide (f.1 < 0)), .slice a n c]] w fun e w' => e = .returned (.string (sB (fBig (encZ f.1)))) ∧ More w w') := Lib.hid (fun w hv => spec_FormatBigInt (.slice a n c) (encZ f.1) w hv HBO.out)
  have FNN : Hid (∀ w, tInts.at w [.slice d m e] (limbs f.2) → Calls Tryz.prog 83 #[.slice d m e] w fun e w' => e = .returned (.string (sB (fN (limbs f.2)))) ∧ More w w') := Lib.hid (fun w hv => spec_FormatNat (.slice d m e) (limbs f.2) w hv HNO.out)
  have HF1 : Hid ((fBig (encZ f.1)).length ≤ 620) := Lib.hid (fBig_len (limbs_isL _) (Nat.le_trans HL1.out (by decide)))
  have HF2 : Hid ((fN (limbs f.2)).length ≤ 610) := Lib.hid (fN_len (limbs_isL _) (Nat.le_trans HL2.out (by decide)))
  have hadd1 : ∀ w, (Op.stringOp .add (sB (fBig (encZ f.1))) ⟨#[47]⟩).run Tryz.prog w = .ok (.string (sB (fBig (encZ f.1) ++ [47]))) w := fun w => add_run _ _ [47] w (by have := HF1.out; simp; omega)
  have hadd2 : ∀ w, (Op.stringOp .add (sB (fBig (encZ f.1) ++ [47])) (sB (fN (limbs f.2)))).run Tryz.prog w = .ok (.string (sB (fBig (encZ f.1) ++ [47] ++ fN (limbs f.2)))) w := fun w => add_run _ _ _ w (by have := HF1.out; have := HF2.out; simp; omega)
  have HX : More (w.alloc (.cells #[.bool (decide (f.1 < 0)), .slice a n c, .slice d m e] 26)) (w.alloc (.cells #[.bool (decide (f.1 < 0)), .slice a n c, .slice d m e] 26)) := More.refl _
  have HB : ∀ w', More (w.alloc (.cells #[.bool (decide (f.1 < 0)), .slice a n c, .slice d m e] 26)) w' → w'.cell? ⟨w.heap.size, 0, none⟩ = some (.bool (decide (f.1 < 0))) ∧ w'.cell? ⟨w.heap.size, 1, none⟩ = some (.slice a n c) ∧ w'.cell? ⟨w.heap.size, 2, none⟩ = some (.slice d m e) ∧ (∀ j, w'.frozen? ⟨w.heap.size, j, none⟩ = false) := fun w' h => ⟨box_new (by simp) h 0, box_new (by simp) h 1, box_new (by simp) h 2, fun j => box_free (by simp) h j⟩
  rcases Bool.eq_false_or_eq_true (decide (f.2 = 1)) with hd | hd
  · have HD := Lib.hid hd; clear hd
    go_enter Tryz.func43, Tryz.ntmps43
    go_wp2_with (first | (go_at_call 80; refine (spec_RatOk _ _ _ (encR f) _ (Ty.at_more HV.out mC) HW.out).mono ?_; rintro e9 w1 ⟨rfl, hb1⟩; rw [HRO.out]; obtain ⟨q0, q1, q2, qf⟩ := HB w1 mC) | (go_at_call 81; refine (spec_l04One _ f.2 _ (Ty.at_more HV2.out mC)).mono ?_; rintro e9 w2 ⟨rfl, hb2⟩; rw [HD.out]; obtain ⟨p0, p1, p2, pf⟩ := HB w2 mC) | (go_at_call 82; refine (FB.out _ (Ty.at_more HV1.out mC)).mono ?_; rintro e9 w3 ⟨rfl, hb3⟩))
    go_ret
    exact ⟨by unfold fR; rw [if_pos (by simpa using HD.out)]; rfl, mC⟩
  · have HD := Lib.hid hd; clear hd
    go_enter Tryz.func43, Tryz.ntmps43
    go_wp2_with (first | (go_at_call 80; refine (spec_RatOk _ _ _ (encR f) _ (Ty.at_more HV.out mC) HW.out).mono ?_; rintro e9 w1 ⟨rfl, hb1⟩; rw [HRO.out]; obtain ⟨q0, q1, q2, qf⟩ := HB w1 mC) | (go_at_call 81; refine (spec_l04One _ f.2 _ (Ty.at_more HV2.out mC)).mono ?_; rintro e9 w2 ⟨rfl, hb2⟩; rw [HD.out]; obtain ⟨p0, p1, p2, pf⟩ := HB w2 mC))
    have R0 := fun (w' : World) (h : More w2 w') => HB w' (More.trans (show More _ w2 from mC) h)
    have R1 := fun (w' : World) (h : More w2 w') => (R0 w' h).1
    have R2 := fun (w' : World) (h : More w2 w') => (R0 w' h).2.1
    have R3 := fun (w' : World) (h : More w2 w') => (R0 w' h).2.2.1
    clear R0
    go_region_held3 (fun w' => More w2 w') (first | exact More.refl _ | exact mC) (first | (go_at_call 82; (with_reducible refine (FB.out _ (Ty.at_more HV1.out mC)).mono ?_); rintro e9 w3 ⟨rfl, hb3⟩) | (go_at_call 83; (with_reducible refine (FNN.out _ (Ty.at_more HV2.out mC)).mono ?_); rintro e9 w4 ⟨rfl, hb4⟩))
    all_goals
      go_wp2_with fail
      go_ret
      exact ⟨by unfold fR; rw [if_neg (by simpa using HD.out)]; first | rfl | (rw [show fBig (encZ f.1) ++ 47 :: fN (limbs f.2) = fBig (encZ f.1) ++ [47] ++ fN (limbs f.2) by rw [List.append_assoc]; rfl]; rfl), mC⟩
end Go.Proofs.YtnbefpfijaimjaaGreatDoor
