/- TurnPolygon: the reference's and the program's, and the law. -/
import Derived.Test.YtbbibfeblaocfaaTurnVec
import Derived.Test.YtbbibfeblaocfaaNegLaw
namespace Go.Proofs.Ytbbibfeblaocfaa
open Go.RowKit

def turnK (k : Int) (v : QV) : QV := turnV v k
def turnP (l : List QV) (k : Int) : List QV := if l.all isV then l.map (turnK k) else []

theorem turnP_len (l : List QV) (k : Int) : (turnP l k).length ≤ l.length := by
  unfold turnP
  split
  · simp
  · simp
set_option maxHeartbeats 1600000 in
theorem impl_TurnPolygon (v : Value) (l : List QV) (k0 : Int) (w : World) (hv : tVecs.at w [v] l) (hl : l.length ≤ 1048576) :
    Calls Try.prog 13 #[v, .int .i64 k0] w fun e w' => ∃ v', e = .returned v' ∧ More w w' ∧ tVecs.fresh w.heap.size w' [v'] (turnP l k0) := by
  have HV0 := Lib.hid hv
  obtain ⟨ao, cap, rfl⟩ := sl_len hv
  have HV := Lib.hid hv; clear hv
  obtain ⟨n, hn⟩ : ∃ n, n = l.length := ⟨_, rfl⟩
  rw [← hn] at HV HV0 hl ⊢
  have HN := Lib.hid hn; clear hn
  obtain ⟨i0, hi, hz0, hz1, hz2⟩ := info_parts infoVec
  rcases Bool.eq_false_or_eq_true (l.all isV) with ha | ha
  · go_enter Try.func13, Try.ntmps13
    have HA := Lib.hid ha
    go_wp2_with (go_at_call 61; refine (impl_areVecs _ l _ HV0.out (by rw [← HN.out]; omega)).mono ?_; rintro e w1 ⟨rfl, hb1⟩)
    clear ha
    go_loopw [5, 14] (fun v i wr => ∃ k : Nat, k ≤ n ∧ i = .int .i64 k ∧ More w wr ∧ Hid (ListOwn tVec w.heap.size 42 wr v ((l.map (turnK k0)).take k))) (fun _ i _ => n - (intOf i).toNat)
    case atStart => exact ⟨0, Nat.zero_le _, rfl, mC, Lib.hid (ListOwn.lit hb1.size)⟩
    case round =>
      obtain ⟨k, hk, rfl, hm, HL⟩ := hrel
      by_cases hlt : k < n
      · obtain ⟨b, off, x, y, rfl, hblt, hx, ox, oy, c0, c1⟩ := vec_el (Ty.at_more HV.out hm) (k := k) (by rw [← HN.out]; exact hlt)
        have HB := Lib.hid (List.all_eq_true.1 HA.out (x, y) (List.mem_of_getElem? hx))
        obtain ⟨⟨tx0, tx1⟩, ty0, ty1⟩ := isV_iff.1 (show isV ((turnV (x, y) k0).1, (turnV (x, y) k0).2) = true from turnV_isV HB.out)
        have OTX : Hid (In64 (turnV (x, y) k0).1) := In64.small (by omega)
        have OTY : Hid (In64 (turnV (x, y) k0).2) := In64.small (by omega)
        have HX := Lib.hid hx; clear hx
        have OX := Lib.hid ox; have OY := Lib.hid oy; clear ox oy
        have hlen : ((l.map (turnK k0)).take k).length ≤ 2097152 := by rw [List.length_take, List.length_map, ← HN.out]; omega
        have HLen := Lib.hid hlen; clear hlen
        go_wp2_with (first | (go_at_call 62; refine (impl_turnVec _ _ _ _ HB.out).mono ?_; rintro e w1 ⟨rfl, hb1⟩) | (at_builtin; refine wpList_pushOwn tVec wr rfl _ _ 23 rfl w.heap.size 42 i0 (.agg #[.int .i64 0, .int .i64 0]) 16 Try.underlying23 hi hz0 hz1 hz2 rfl (by decide) rfl HL.out mC rfl (by simp) (vec_fresh (x := (turnV (x, y) k0).1) (y := (turnV (x, y) k0).2) OTX.out OTY.out) HLen (by decide) (Lib.hid hm.size) ?_))
        intro v' w2 hl2 hmw
        go_wp2_with fail
        go_roundw
        case rel => exact ⟨k + 1, by omega, by go_num, hmw _ rfl mC, Lib.hid (by rw [take_map_next HX.out]; exact hl2)⟩
        case measure => simp [intOf]; omega
      · go_wp2_with fail
        go_ret
        obtain rfl : k = n := by omega
        exact ⟨_, rfl, hm, by
          have h1 := HL.out.fresh
          rw [List.take_of_length_le (by rw [List.length_map, HN.out]; exact Nat.le_refl _)] at h1
          rw [turnP, if_pos HA.out]
          exact h1⟩
  · go_enter Try.func13, Try.ntmps13
    go_wp2_with (go_at_call 61; refine (impl_areVecs _ l _ HV0.out (by rw [← HN.out]; omega)).mono ?_; rintro e w1 ⟨rfl, hb1⟩)
    go_ret
    exact ⟨_, rfl, hb1, by rw [turnP, ha]; exact nil_fresh⟩
end Go.Proofs.Ytbbibfeblaocfaa
