/- Contracts of the quarter turns of a vector, and the law FnExactTurnVec. -/
import Derived.Test.YtbbibfeblaocfaaGVec
namespace Go.Proofs.Ytbbibfeblaocfaa
open Go.RowKit
/-- n quarter turns. -/
def rotN : Nat → QV → QV
  | 0, v => v
  | n + 1, v => (-(rotN n v).2, (rotN n v).1)
def turnV (v : QV) (k : Int) : QV := rotN (k % 4).toNat v
def turnVF (v : QV) (k : Int) : QV := if isV v then turnV v k else (0, 0)
theorem rotN_isV (n : Nat) (v : QV) (h : isV v = true) : isV (rotN n v) = true := by
  induction n with
  | zero => exact h
  | succ n ih =>
    rw [isV_iff] at ih ⊢
    simp only [rotN]
    omega
theorem turnV_isV {v : QV} {k : Int} (h : isV v = true) : isV (turnV v k) = true := rotN_isV _ _ h
theorem tmod4 (k : Int) : -4 < k.tmod 4 ∧ k.tmod 4 < 4 ∧ (k.tmod 4 + 4) % 4 = k % 4 := by
  have h1 := Int.tmod_lt_of_pos k (show (0 : Int) < 4 by decide)
  have h2 := Int.lt_tmod_of_pos k (show (0 : Int) < 4 by decide)
  have h3 := Int.mul_tdiv_add_tmod k 4
  omega

set_option maxHeartbeats 800000 in
theorem impl_turnVec (x y k : Int) (w : World) (hv : isV (x, y) = true) : Calls Try.prog 62 #[.agg #[.int .i64 x, .int .i64 y], .int .i64 k] w fun e w' => e = .returned (.agg #[.int .i64 (turnV (x, y) k).1, .int .i64 (turnV (x, y) k).2]) ∧ More w w' := by
  obtain ⟨m1, m2, m3⟩ := tmod4 k
  obtain ⟨r, hr⟩ : ∃ r : Nat, (r : Int) = k % 4 := ⟨(k % 4).toNat, by omega⟩
  have r1 : (r : Int) ≤ (k.tmod 4 + 4) % 4 := by omega
  have r2 : (k.tmod 4 + 4) % 4 ≤ (r : Int) := by omega
  have HR := Lib.hid hr; clear hr m3
  have HV := Lib.hid hv; clear hv
  go_enter Try.func62, Try.ntmps62
  go_wp2_with fail
  go_loopw [9] (fun i wr => ∃ (j : Nat) (x' y' : Int), j ≤ r ∧ i = .int .i64 j ∧ More w wr ∧ Hid (rotN j (x, y) = (x', y')) ∧ w.heap.size + 1 < wr.heap.size ∧ wr.cell? ⟨w.heap.size, 0, none⟩ = some (.int .i64 x') ∧ wr.cell? ⟨w.heap.size, 1, none⟩ = some (.int .i64 y') ∧ wr.frozen? ⟨w.heap.size, 0, none⟩ = false ∧ wr.frozen? ⟨w.heap.size, 1, none⟩ = false ∧
      wr.cell? ⟨w.heap.size + 1, 0, none⟩ = some (.int .i64 0) ∧ wr.cell? ⟨w.heap.size + 1, 1, none⟩ = some (.int .i64 0) ∧ wr.frozen? ⟨w.heap.size + 1, 0, none⟩ = false ∧ wr.frozen? ⟨w.heap.size + 1, 1, none⟩ = false) (fun i _ => r - (intOf i).toNat)
  case atStart => exact ⟨0, x, y, Nat.zero_le _, rfl, mC, Lib.hid rfl, by simp, by simp, by simp, by simp, by simp, by simp, by simp, by simp, by simp⟩
  case round =>
    obtain ⟨j, x', y', hj, rfl, hm, HQ, hsz, c0, c1, f0, f1, d0, d1, g0, g1⟩ := hrel
    have hv' := isV_iff.1 (rotN_isV j _ HV.out)
    rw [HQ.out] at hv'
    obtain ⟨⟨b1, b2⟩, b3, b4⟩ := hv'
    simp only at b1 b2 b3 b4
    by_cases hlt : j < r
    · go_wp2_with fail
      go_roundw
      case rel =>
        exact ⟨j + 1, -y', x', by omega, by go_num, Turns.more (((hm.turns []).setCell (.inr (Nat.le_refl _)) _).setCell (.inr (Nat.le_refl _)) _), Lib.hid (by rw [rotN, HQ.out]), by simpa using hsz, by simp [go_sem, *], by simp [go_sem, *], by simp [go_sem, *], by simp [go_sem, *], by simp [go_sem, *], by simp [go_sem, *], by simp [go_sem, *], by simp [go_sem, *]⟩
      case measure => simp [intOf]; omega
    · go_wp2_with fail
      obtain rfl : j = r := by omega
      have e1 : turnV (x, y) k = (x', y') := by
        unfold turnV
        rw [← HR.out, Int.toNat_natCast]
        exact HQ.out
      rw [e1]
      refine bodyPost_ret (v := .agg #[.int .i64 x', .int .i64 y']) ?_ rfl ⟨rfl, ?_⟩
      · simp [results, Try.results62, go_sem, *]
      · exact Turns.more (((hm.turns []).setCell (.inr (by simp)) _).setCell (.inr (by simp)) _)
end Go.Proofs.Ytbbibfeblaocfaa
