/- CountTurns: the reference's and the program's count the steps that turn. -/
import Derived.Test.YtmibmiebanaojaaKin
import Derived.Test.YtmibmiebanaojaaVecS
namespace Go.Proofs.Ytmibmiebanaojaa
open Go.RowKit
def isTurn (s : QStep) : Bool := !decide (s.1 = 0)
def cntT (l : List QStep) : Nat := l.countP isTurn
theorem cntT_next {l : List QStep} {k : Nat} {x : QStep} (hx : l[k]? = some x) : cntT (l.take (k + 1)) = cntT (l.take k) + if isTurn x then 1 else 0 := by
  obtain ⟨hk, rfl⟩ := List.getElem?_eq_some_iff.1 hx
  unfold cntT
  rw [List.take_succ_eq_append_getElem hk, List.countP_append, List.countP_singleton]
theorem cntT_le (l : List QStep) (k : Nat) : cntT (l.take k) ≤ k := by
  unfold cntT
  exact Nat.le_trans (List.countP_le_length) (List.length_take_le _ _)
set_option maxHeartbeats 1600000 in
theorem spec_CountTurns (v : Value) (l : List QStep) (w : World) (hv : tStepS.at w [v] l) (hl : wStepS l ≤ 1048576) :
    Calls Try.prog 46 #[v] w fun e w' => e = .returned (.int .i64 (cntT l)) ∧ More w w' := by
  obtain ⟨ao, cap, rfl⟩ := sl_len hv
  have HV := Lib.hid hv; clear hv
  have hl : l.length ≤ 1048576 := by unfold wStepS at hl; omega
  obtain ⟨n, hn⟩ : ∃ n, n = l.length := ⟨_, rfl⟩
  rw [← hn] at HV hl ⊢
  have HN := Lib.hid hn; clear hn
  go_enter Try.func46, Try.ntmps46
  go_wp2_with fail
  go_loopw [3, 8] (fun c i wr => ∃ k : Nat, k ≤ n ∧ i = .int .i64 k ∧ More w wr ∧ ∃ q : Nat, c = .int .i64 q ∧ q ≤ k ∧ Hid (q = cntT (l.take k))) (fun _ i _ => n - (intOf i).toNat)
  case atStart => exact ⟨0, Nat.zero_le _, rfl, More.refl _, 0, rfl, by omega, Lib.hid rfl⟩
  case round =>
    obtain ⟨k, hk, rfl, hm, q, rfl, hq, HQ⟩ := hrel
    by_cases hlt : k < n
    · obtain ⟨b, off, x, a2, n2, c2, a3, n3, c3, a5, n5, c5, a6, n6, c6, rfl, hblt, hx, hat, p0, p1, p2, p3, p4, p5, p6⟩ := el_Step (Ty.at_more HV.out hm) (k := k) (by rw [← HN.out]; exact hlt)
      have HX := Lib.hid hx; clear hx hat
      by_cases h0 : x.1 = 0
      · have h1 : (x.1 != 0) = false := by simp [h0]
        have H0 := Lib.hid h0; clear h0
        go_wp2_with fail
        go_roundw
        case rel => exact ⟨k + 1, by omega, by go_num, (Turns.more (by repeat (first | (with_reducible exact Turns.refl _ _) | (with_reducible apply Turns.drew) | (with_reducible apply Turns.drewN) | (with_reducible apply Turns.alloc) | (with_reducible refine Turns.via (by assumption) ?_)))), q, rfl, by omega, Lib.hid (by rw [cntT_next HX.out, HQ.out]; simp [isTurn, H0.out])⟩
        case measure => simp [intOf]; omega
      · have h1 : (x.1 != 0) = true := by simp [h0]
        have H0 := Lib.hid h0; clear h0
        go_wp2_with fail
        go_roundw
        case rel => exact ⟨k + 1, by omega, by go_num, (Turns.more (by repeat (first | (with_reducible exact Turns.refl _ _) | (with_reducible apply Turns.drew) | (with_reducible apply Turns.drewN) | (with_reducible apply Turns.alloc) | (with_reducible refine Turns.via (by assumption) ?_)))), q + 1, by go_num, by omega, Lib.hid (by rw [cntT_next HX.out, HQ.out]; simp [isTurn, H0.out])⟩
        case measure => simp [intOf]; omega
    · go_wp2_with fail
      go_ret
      obtain rfl : k = n := by omega
      exact ⟨ret_int (by rw [HQ.out, List.take_of_length_le (by rw [← HN.out]; exact Nat.le_refl _)]), hm⟩
set_option maxHeartbeats 1600000 in
theorem impl_CountTurns (v : Value) (l : List QStep) (w : World) (hv : tStepS.at w [v] l) (hl : wStepS l ≤ 1048576) :
    Calls Try.prog 48 #[v] w fun e w' => e = .returned (.int .i64 (cntT l)) ∧ More w w' := by
  obtain ⟨ao, cap, rfl⟩ := sl_len hv
  have HV := Lib.hid hv; clear hv
  have hl : l.length ≤ 1048576 := by unfold wStepS at hl; omega
  obtain ⟨n, hn⟩ : ∃ n, n = l.length := ⟨_, rfl⟩
  rw [← hn] at HV hl ⊢
  have HN := Lib.hid hn; clear hn
  go_enter Try.func48, Try.ntmps48
  go_wp2_with fail
  go_loopw [3, 8] (fun c i wr => ∃ k : Nat, k ≤ n ∧ i = .int .i64 k ∧ More w wr ∧ ∃ q : Nat, c = .int .i64 q ∧ q ≤ k ∧ Hid (q = cntT (l.take k))) (fun _ i _ => n - (intOf i).toNat)
  case atStart => exact ⟨0, Nat.zero_le _, rfl, More.refl _, 0, rfl, by omega, Lib.hid rfl⟩
  case round =>
    obtain ⟨k, hk, rfl, hm, q, rfl, hq, HQ⟩ := hrel
    by_cases hlt : k < n
    · obtain ⟨b, off, x, a2, n2, c2, a3, n3, c3, a5, n5, c5, a6, n6, c6, rfl, hblt, hx, hat, p0, p1, p2, p3, p4, p5, p6⟩ := el_Step (Ty.at_more HV.out hm) (k := k) (by rw [← HN.out]; exact hlt)
      have HX := Lib.hid hx; clear hx hat
      by_cases h0 : x.1 = 0
      · have h1 : (x.1 != 0) = false := by simp [h0]
        have H0 := Lib.hid h0; clear h0
        go_wp2_with fail
        go_roundw
        case rel => exact ⟨k + 1, by omega, by go_num, (Turns.more (by repeat (first | (with_reducible exact Turns.refl _ _) | (with_reducible apply Turns.drew) | (with_reducible apply Turns.drewN) | (with_reducible apply Turns.alloc) | (with_reducible refine Turns.via (by assumption) ?_)))), q, rfl, by omega, Lib.hid (by rw [cntT_next HX.out, HQ.out]; simp [isTurn, H0.out])⟩
        case measure => simp [intOf]; omega
      · have h1 : (x.1 != 0) = true := by simp [h0]
        have H0 := Lib.hid h0; clear h0
        go_wp2_with fail
        go_roundw
        case rel => exact ⟨k + 1, by omega, by go_num, (Turns.more (by repeat (first | (with_reducible exact Turns.refl _ _) | (with_reducible apply Turns.drew) | (with_reducible apply Turns.drewN) | (with_reducible apply Turns.alloc) | (with_reducible refine Turns.via (by assumption) ?_)))), q + 1, by go_num, by omega, Lib.hid (by rw [cntT_next HX.out, HQ.out]; simp [isTurn, H0.out])⟩
        case measure => simp [intOf]; omega
    · go_wp2_with fail
      go_ret
      obtain rfl : k = n := by omega
      exact ⟨ret_int (by rw [HQ.out, List.take_of_length_le (by rw [← HN.out]; exact Nat.le_refl _)]), hm⟩
end Go.Proofs.Ytmibmiebanaojaa
