/- EventIndex: the reference's and the program's find the first fraction that is equal. -/
import Derived.Test.YtmibmiebanaojaaEqFr
namespace Go.Proofs.Ytmibmiebanaojaa
open Go.RowKit
def evP (x r : QR) : Bool := decide (r = x)
set_option maxHeartbeats 1600000 in
theorem spec_EventIndex (v : Value) (cs : List Value) (l : List QR) (x : QR) (w : World) (hv : tRatS.at w [v] l) (hx : tRat.at w cs x) (hl : wRatS l ≤ 1048576) (hw : wRat x ≤ 1048576) :
    Calls Try.prog 34 #[v, .agg cs.toArray] w fun e w' => e = .returned (.int .i64 (idxI (evP x) l)) ∧ More w w' := by
  obtain ⟨ao, cap, rfl⟩ := sl_len hv
  obtain ⟨z1, z2, z3, z4, z5, z6, rfl⟩ := sh_Rat hx
  have HV := Lib.hid hv; clear hv
  have HXX := Lib.hid hx; clear hx
  have HWx := Lib.hid hw; clear hw
  have HWl : Hid (l.length + wsum wRat l ≤ 1048576) := Lib.hid hl
  have hl : l.length ≤ 1048576 := by have := HWl.out; omega
  obtain ⟨n, hn⟩ : ∃ n, n = l.length := ⟨_, rfl⟩
  rw [← hn] at HV hl ⊢
  have HN := Lib.hid hn; clear hn
  have HX : More (w.alloc (.cells #[.bool x.1.1, .slice z1 z2 z3, .slice z4 z5 z6] 48)) (w.alloc (.cells #[.bool x.1.1, .slice z1 z2 z3, .slice z4 z5 z6] 48)) := More.refl _
  have HB : ∀ w', More (w.alloc (.cells #[.bool x.1.1, .slice z1 z2 z3, .slice z4 z5 z6] 48)) w' → w'.cell? ⟨w.heap.size, 0, none⟩ = some (.bool x.1.1) ∧ w'.cell? ⟨w.heap.size, 1, none⟩ = some (.slice z1 z2 z3) ∧ w'.cell? ⟨w.heap.size, 2, none⟩ = some (.slice z4 z5 z6) ∧ (∀ j, w'.frozen? ⟨w.heap.size, j, none⟩ = false) := fun w' h => ⟨box_new (by simp) h 0, box_new (by simp) h 1, box_new (by simp) h 2, fun j => box_free (by simp) h j⟩
  show Calls Try.prog 34 #[_, .agg #[.bool x.1.1, .slice z1 z2 z3, .slice z4 z5 z6]] w _
  go_enter Try.func34, Try.ntmps34
  go_wp2_with fail
  go_loopw [9] (fun i wr => ∃ k : Nat, k ≤ n ∧ i = .int .i64 k ∧ More (w.alloc (.cells #[.bool x.1.1, .slice z1 z2 z3, .slice z4 z5 z6] 48)) wr ∧ Hid (∀ (i : Nat) y, i < k → l[i]? = some y → evP x y = false)) (fun i _ => n - (intOf i).toNat)
  case atStart => exact ⟨0, Nat.zero_le _, rfl, More.refl _, Lib.hid (fun i y hi => by omega)⟩
  case round =>
    obtain ⟨k, hk, rfl, hm, HB0⟩ := hrel
    have HBw := HB _ hm
    have hwr : w.heap.size < wr.heap.size := by have := hm.size; simp at this; omega
    have hMw : More w wr := More.trans (Turns.more (by repeat (first | (with_reducible exact Turns.refl _ _) | (with_reducible apply Turns.drew) | (with_reducible apply Turns.drewN) | (with_reducible apply Turns.alloc) | (with_reducible refine Turns.via (by assumption) ?_)))) hm
    by_cases hlt : k < n
    · obtain ⟨b, off, r, a1, n1, c1, a2, n2, c2, rfl, hblt, hr, hat, p0, p1, p2⟩ := el_Rat (Ty.at_more HV.out hMw) (k := k) (by rw [← HN.out]; exact hlt)
      have HR := Lib.hid hr; have HA := Lib.hid hat; clear hr hat
      have HXr := Lib.hid (Ty.at_more HXX.out hMw)
      have HMw := Lib.hid hMw; clear hMw
      rcases Bool.eq_false_or_eq_true (decide (r = x)) with hd | hd
      all_goals
        have HD := Lib.hid hd
        go_wp2_with fail
        refine (spec_RatEqual _ _ r x _ (Ty.at_more HA.out (Turns.more (by repeat (first | (with_reducible exact Turns.refl _ _) | (with_reducible apply Turns.drew) | (with_reducible apply Turns.drewN) | (with_reducible apply Turns.alloc) | (with_reducible refine Turns.via (by assumption) ?_))))) (Ty.at_more HXr.out (Turns.more (by repeat (first | (with_reducible exact Turns.refl _ _) | (with_reducible apply Turns.drew) | (with_reducible apply Turns.drewN) | (with_reducible apply Turns.alloc) | (with_reducible refine Turns.via (by assumption) ?_))))) (by have := wsum_el (f := wRat) HR.out; have := HWl.out; omega) HWx.out).mono ?_
        rintro e w1 ⟨rfl, hb1⟩
        rw [hd]
        go_wp2_with fail
      · go_ret
        exact ⟨ret_int (idxI_found HB0.out HR.out HD.out).symm, More.trans HMw.out (Turns.more (by repeat (first | (with_reducible exact Turns.refl _ _) | (with_reducible apply Turns.drew) | (with_reducible apply Turns.drewN) | (with_reducible apply Turns.alloc) | (with_reducible refine Turns.via (by assumption) ?_))))⟩
      · go_roundw
        case rel => exact ⟨k + 1, by omega, by go_num, More.trans hm (Turns.more (by repeat (first | (with_reducible exact Turns.refl _ _) | (with_reducible apply Turns.drew) | (with_reducible apply Turns.drewN) | (with_reducible apply Turns.alloc) | (with_reducible refine Turns.via (by assumption) ?_)))), Lib.hid (fun i z hi hz => by
          rcases Nat.lt_succ_iff_lt_or_eq.1 hi with h | rfl
          · exact HB0.out i z h hz
          · rw [HR.out] at hz; cases hz; exact HD.out)⟩
        case measure => simp [intOf]; omega
    · go_wp2_with fail
      go_ret
      exact ⟨ret_int (idxI_none (fun i z hz => HB0.out i z (by have := (List.getElem?_eq_some_iff.1 hz).1; have := HN.out; omega) hz)).symm, hMw⟩
set_option maxHeartbeats 800000 in
theorem impl_EventIndex_1 (bx : Nat) (z1 : Option Addr) (z2 z3 : Nat) (z4 : Option Addr) (z5 z6 : Nat) (cs : List Value) (r x : QR) (w : World) (hr : tRat.at w cs r) (hx : tRat.at w [.bool x.1.1, .slice z1 z2 z3, .slice z4 z5 z6] x) (hwr : wRat r ≤ 1048576) (hw : wRat x ≤ 1048576)
    (hb : bx < w.heap.size) (q0 : w.cell? ⟨bx, 0, none⟩ = some (.bool x.1.1)) (q1 : w.cell? ⟨bx, 1, none⟩ = some (.slice z1 z2 z3)) (q2 : w.cell? ⟨bx, 2, none⟩ = some (.slice z4 z5 z6)) :
    Calls Try.prog 131 #[.agg cs.toArray, .pointer (some ⟨bx, 0, none⟩)] w fun e w' => e = .returned (.bool (evP x r)) ∧ More w w' := by
  obtain ⟨y1, y2, y3, y4, y5, y6, rfl⟩ := sh_Rat hr
  have HR := Lib.hid hr; have HX := Lib.hid hx; have HWr := Lib.hid hwr; have HW := Lib.hid hw; clear hr hx hwr hw
  show Calls Try.prog 131 #[.agg #[.bool r.1.1, .slice y1 y2 y3, .slice y4 y5 y6], .pointer (some ⟨bx, 0, none⟩)] w _
  go_enter Try.func131, Try.ntmps131
  go_wp2_with (go_at_call 132; refine (impl_RatEqual _ _ r x _ (Ty.at_more HR.out (Turns.more (by repeat (first | (with_reducible exact Turns.refl _ _) | (with_reducible apply Turns.drew) | (with_reducible apply Turns.drewN) | (with_reducible apply Turns.alloc) | (with_reducible refine Turns.via (by assumption) ?_))))) (Ty.at_more HX.out (Turns.more (by repeat (first | (with_reducible exact Turns.refl _ _) | (with_reducible apply Turns.drew) | (with_reducible apply Turns.drewN) | (with_reducible apply Turns.alloc) | (with_reducible refine Turns.via (by assumption) ?_))))) HWr.out HW.out).mono ?_; rintro e w1 ⟨rfl, hb1⟩)
  go_ret
  exact ⟨rfl, (Turns.more (by repeat (first | (with_reducible exact Turns.refl _ _) | (with_reducible apply Turns.drew) | (with_reducible apply Turns.drewN) | (with_reducible apply Turns.alloc) | (with_reducible refine Turns.via (by assumption) ?_))))⟩
set_option maxHeartbeats 1600000 in
theorem indexFunc_EventIndex (bx : Nat) (z1 : Option Addr) (z2 z3 : Nat) (z4 : Option Addr) (z5 z6 : Nat) (v : Value) (l : List QR) (x : QR) (w : World) (hv : tRatS.at w [v] l) (hx : tRat.at w [.bool x.1.1, .slice z1 z2 z3, .slice z4 z5 z6] x) (hl : wRatS l ≤ 1048576) (hw : wRat x ≤ 1048576)
    (hb : bx < w.heap.size) (q0 : w.cell? ⟨bx, 0, none⟩ = some (.bool x.1.1)) (q1 : w.cell? ⟨bx, 1, none⟩ = some (.slice z1 z2 z3)) (q2 : w.cell? ⟨bx, 2, none⟩ = some (.slice z4 z5 z6)) :
    Calls Try.prog 130 #[v, .func (.func 131) #[] #[.pointer (some ⟨bx, 0, none⟩)]] w fun e w' => e = .returned (.int .i64 (idxI (evP x) l)) ∧ More w w' := by
  obtain ⟨ao, cap, rfl⟩ := sl_len hv
  have HV := Lib.hid hv; clear hv
  have HXX := Lib.hid hx; clear hx
  have HWx := Lib.hid hw; clear hw
  have HWl : Hid (l.length + wsum wRat l ≤ 1048576) := Lib.hid hl
  have hl : l.length ≤ 1048576 := by have := HWl.out; omega
  have Q : Hid (∀ W, More w W → bx < W.heap.size ∧ W.cell? ⟨bx, 0, none⟩ = some (.bool x.1.1) ∧ W.cell? ⟨bx, 1, none⟩ = some (.slice z1 z2 z3) ∧ W.cell? ⟨bx, 2, none⟩ = some (.slice z4 z5 z6)) :=
    Lib.hid (fun W h => ⟨Nat.lt_of_lt_of_le hb h.size, ((bcell h).1 _ _ hb).trans q0, ((bcell h).1 _ _ hb).trans q1, ((bcell h).1 _ _ hb).trans q2⟩)
  clear q0 q1 q2
  obtain ⟨n, hn⟩ : ∃ n, n = l.length := ⟨_, rfl⟩
  rw [← hn] at HV hl ⊢
  have HN := Lib.hid hn; clear hn
  go_enter Try.func130, Try.ntmps130
  go_wp2_with fail
  go_loopw [8] (fun i wr => ∃ k : Nat, k ≤ n ∧ i = .int .i64 k ∧ More w wr ∧ Hid (∀ (i : Nat) y, i < k → l[i]? = some y → evP x y = false)) (fun i _ => n - (intOf i).toNat)
  case atStart => exact ⟨0, Nat.zero_le _, rfl, More.refl _, Lib.hid (fun i y hi => by omega)⟩
  case round =>
    obtain ⟨k, hk, rfl, hm, HB0⟩ := hrel
    by_cases hlt : k < n
    · obtain ⟨b, off, r, a1, n1, c1, a2, n2, c2, rfl, hblt, hr, hat, p0, p1, p2⟩ := el_Rat (Ty.at_more HV.out hm) (k := k) (by rw [← HN.out]; exact hlt)
      have HR := Lib.hid hr; have HA := Lib.hid hat; clear hr hat
      have HXr := Lib.hid (Ty.at_more HXX.out hm)
      rcases Bool.eq_false_or_eq_true (evP x r) with hd | hd
      all_goals
        have HD := Lib.hid hd
        go_wp2_with fail
        refine (impl_EventIndex_1 bx z1 z2 z3 z4 z5 z6 _ r x _ HA.out HXr.out (by have := wsum_el (f := wRat) HR.out; have := HWl.out; omega) HWx.out (Q.out _ hm).1 (Q.out _ hm).2.1 (Q.out _ hm).2.2.1 (Q.out _ hm).2.2.2).mono ?_
        rintro e w1 ⟨rfl, hb1⟩
        rw [hd]
        go_wp2_with fail
      · go_ret
        exact ⟨ret_int (idxI_found HB0.out HR.out HD.out).symm, (Turns.more (by repeat (first | (with_reducible exact Turns.refl _ _) | (with_reducible apply Turns.drew) | (with_reducible apply Turns.drewN) | (with_reducible apply Turns.alloc) | (with_reducible refine Turns.via (by assumption) ?_))))⟩
      · go_roundw
        case rel => exact ⟨k + 1, by omega, by go_num, (Turns.more (by repeat (first | (with_reducible exact Turns.refl _ _) | (with_reducible apply Turns.drew) | (with_reducible apply Turns.drewN) | (with_reducible apply Turns.alloc) | (with_reducible refine Turns.via (by assumption) ?_)))), Lib.hid (fun i z hi hz => by
          rcases Nat.lt_succ_iff_lt_or_eq.1 hi with h | rfl
          · exact HB0.out i z h hz
          · rw [HR.out] at hz; cases hz; exact HD.out)⟩
        case measure => simp [intOf]; omega
    · go_wp2_with fail
      go_ret
      exact ⟨ret_int (idxI_none (fun i z hz => HB0.out i z (by have := (List.getElem?_eq_some_iff.1 hz).1; have := HN.out; omega) hz)).symm, hm⟩
set_option maxHeartbeats 800000 in
theorem impl_EventIndex (v : Value) (cs : List Value) (l : List QR) (x : QR) (w : World) (hv : tRatS.at w [v] l) (hx : tRat.at w cs x) (hl : wRatS l ≤ 1048576) (hw : wRat x ≤ 1048576) :
    Calls Try.prog 37 #[v, .agg cs.toArray] w fun e w' => e = .returned (.int .i64 (idxI (evP x) l)) ∧ More w w' := by
  obtain ⟨z1, z2, z3, z4, z5, z6, rfl⟩ := sh_Rat hx
  have HV := Lib.hid hv; have HXx := Lib.hid hx; have HL := Lib.hid hl; have HW := Lib.hid hw; clear hv hx hl hw
  show Calls Try.prog 37 #[_, .agg #[.bool x.1.1, .slice z1 z2 z3, .slice z4 z5 z6]] w _
  go_enter Try.func37, Try.ntmps37
  go_wp2_with fail
  refine (indexFunc_EventIndex w.heap.size z1 z2 z3 z4 z5 z6 _ l x _ (Ty.at_more HV.out (Turns.more (by repeat (first | (with_reducible exact Turns.refl _ _) | (with_reducible apply Turns.drew) | (with_reducible apply Turns.drewN) | (with_reducible apply Turns.alloc) | (with_reducible refine Turns.via (by assumption) ?_))))) (Ty.at_more HXx.out (Turns.more (by repeat (first | (with_reducible exact Turns.refl _ _) | (with_reducible apply Turns.drew) | (with_reducible apply Turns.drewN) | (with_reducible apply Turns.alloc) | (with_reducible refine Turns.via (by assumption) ?_))))) HL.out HW.out (by simp) (by simp) (by simp) (by simp)).mono ?_
  rintro e w1 ⟨rfl, hb1⟩
  go_wp2_with fail
  go_ret
  exact ⟨rfl, (Turns.more (by repeat (first | (with_reducible exact Turns.refl _ _) | (with_reducible apply Turns.drew) | (with_reducible apply Turns.drewN) | (with_reducible apply Turns.alloc) | (with_reducible refine Turns.via (by assumption) ?_))))⟩
end Go.Proofs.Ytmibmiebanaojaa
