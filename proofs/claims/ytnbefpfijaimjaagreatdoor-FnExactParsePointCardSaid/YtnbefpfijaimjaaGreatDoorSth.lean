/- Whole numbers and fractions as texts: the reference's and the program's. -/
import Derived.Test.YtnbefpfijaimjaaGreatDoorStg
import Derived.Deep.RegionHeld3
namespace Go.Proofs.YtnbefpfijaimjaaGreatDoor
open Go.RowKit
def fBig (x : QZ) : List UInt8 := if x.1 then 45 :: fN x.2 else fN x.2
def fR (f : Fr) : List UInt8 := if f.2 = 1 then fBig (encZ f.1) else fBig (encZ f.1) ++ 47 :: fN (limbs f.2)
theorem dI_len {l : List Int} (h : IsL l) (i : Nat) : (dI (l.getD i 0)).length ≤ 10 := by
  have h1 := h.get i
  unfold dI
  exact dec9 (by omega)
theorem fTail_len {l : List Int} (h : IsL l) : ∀ k, (fTail l k).length ≤ 10 * k
  | 0 => by simp [fTail]
  | k + 1 => by
    have h1 := fTail_len h k
    have h2 := padZ_len (dI_len h k)
    unfold fTail
    rw [List.length_append]
    omega
theorem fN_len {l : List Int} (h : IsL l) (hl : l.length ≤ 60) : (fN l).length ≤ 610 := by
  unfold fN
  split
  · simp
  · have h1 := fTail_len h (l.length - 1)
    have h2 := dI_len h (l.length - 1)
    rw [List.length_append]
    omega
theorem fBig_len {x : QZ} (h : IsL x.2) (hl : x.2.length ≤ 60) : (fBig x).length ≤ 620 := by
  have := fN_len h hl
  unfold fBig
  split
  · rw [List.length_cons]; omega
  · omega
set_option maxRecDepth 8000 in
set_option maxHeartbeats 3200000 in
theorem impl_formatBig (v : Value) (x : QZ) (w : World) (hv : tInts.at w [v] x.2) (hl : x.2.length ≤ 60) (hL : IsL x.2) (ht : PowTab w) :
    Calls Tryz.prog 65 #[.agg #[.bool x.1, v]] w fun e w' => e = .returned (.string (sB (fBig x))) ∧ More w w' := by
  obtain ⟨a, n, c, rfl⟩ := sh1 hv
  have HV := Lib.hid hv; clear hv
  have HL := Lib.hid hl; have HI := Lib.hid hL; have HT := Lib.hid ht; clear hl hL ht
  have hadd : ∀ w, (Op.stringOp .add ⟨#[45]⟩ (sB (fN x.2))).run Tryz.prog w = .ok (.string (sB (45 :: fN x.2))) w := fun w => add_run _ [45] (fN x.2) w (by have := fN_len HI.out HL.out; simp; omega)
  have HX : More (w.alloc (.cells #[.bool x.1, .slice a n c] 24)) (w.alloc (.cells #[.bool x.1, .slice a n c] 24)) := More.refl _
  have HB : ∀ w', More (w.alloc (.cells #[.bool x.1, .slice a n c] 24)) w' → w'.cell? ⟨w.heap.size, 0, none⟩ = some (.bool x.1) ∧ w'.cell? ⟨w.heap.size, 1, none⟩ = some (.slice a n c) ∧ (∀ j, w'.frozen? ⟨w.heap.size, j, none⟩ = false) := fun w' h => ⟨box_new (by simp) h 0, box_new (by simp) h 1, fun j => box_free (by simp) h j⟩
  rcases Bool.eq_false_or_eq_true x.1 with hs | hs
  all_goals
    have HS := Lib.hid hs
    rw [hs] at HB ⊢
    clear hs
    go_enter Tryz.func65, Tryz.ntmps65
    go_wp2_with (first | (go_at_call 66; refine (impl_formatNat (.slice a n c) x.2 _ (Ty.at_more HV.out mC) HL.out HI.out (HT.out.more mC)).mono ?_; rintro e w5 ⟨rfl, hb5⟩))
    go_ret
    exact ⟨by unfold fBig; rw [HS.out]; rfl, mC⟩
set_option maxRecDepth 8000 in
set_option maxHeartbeats 3200000 in
theorem spec_FormatBigInt (v : Value) (x : QZ) (w : World) (hv : tInts.at w [v] x.2) (hok : bigOkB x = true) :
    Calls Tryz.prog 82 #[.agg #[.bool x.1, v]] w fun e w' => e = .returned (.string (sB (fBig x))) ∧ More w w' := by
  obtain ⟨a, n, c, rfl⟩ := sh1 hv
  have HV := Lib.hid hv; clear hv
  have hnat : natOkB x.2 = true := by unfold bigOkB at hok; rw [Bool.and_eq_true] at hok; exact hok.1
  have hlc : x.2.length ≤ 60 ∧ Can x.2 := by unfold natOkB at hnat; simpa using hnat
  have HL := Lib.hid hlc.1; have HI := Lib.hid hlc.2.1; have HOK := Lib.hid hok; have HNO := Lib.hid hnat; clear hok hnat hlc
  have hadd : ∀ w, (Op.stringOp .add ⟨#[45]⟩ (sB (fN x.2))).run Tryz.prog w = .ok (.string (sB (45 :: fN x.2))) w := fun w => add_run _ [45] (fN x.2) w (by have := fN_len HI.out HL.out; simp; omega)
  have HX : More (w.alloc (.cells #[.bool x.1, .slice a n c] 24)) (w.alloc (.cells #[.bool x.1, .slice a n c] 24)) := More.refl _
  have HB : ∀ w', More (w.alloc (.cells #[.bool x.1, .slice a n c] 24)) w' → w'.cell? ⟨w.heap.size, 0, none⟩ = some (.bool x.1) ∧ w'.cell? ⟨w.heap.size, 1, none⟩ = some (.slice a n c) ∧ (∀ j, w'.frozen? ⟨w.heap.size, j, none⟩ = false) := fun w' h => ⟨box_new (by simp) h 0, box_new (by simp) h 1, fun j => box_free (by simp) h j⟩
  rcases Bool.eq_false_or_eq_true x.1 with hs | hs
  all_goals
    have HS := Lib.hid hs
    rw [hs] at HB ⊢
    have HOKX : Hid (∀ (v : Value) (w : World), tInts.at w [v] x.2 → Calls Tryz.prog 111 #[.agg #[.bool _, v]] w fun e w' => e = .returned (.bool true) ∧ More w w') := Lib.hid (fun v w hv => (spec_BigIntOk _ v x w hs hv (Nat.le_trans HL.out (by decide))).mono (fun e w' h => ⟨by rw [h.1, HOK.out], h.2⟩))
    clear hs
    go_enter Tryz.func82, Tryz.ntmps82
    go_wp2_with (first | (go_at_call 111; refine (HOKX.out (.slice a n c) _ (Ty.at_more HV.out mC)).mono ?_; rintro e w1 ⟨rfl, hb1⟩; obtain ⟨q0, q1, qf⟩ := HB w1 mC) | (go_at_call 83; refine (spec_FormatNat (.slice a n c) x.2 _ (Ty.at_more HV.out mC) HNO.out).mono ?_; rintro e w5 ⟨rfl, hb5⟩))
    go_ret
    exact ⟨by unfold fBig; rw [HS.out]; rfl, mC⟩
end Go.Proofs.YtnbefpfijaimjaaGreatDoor
