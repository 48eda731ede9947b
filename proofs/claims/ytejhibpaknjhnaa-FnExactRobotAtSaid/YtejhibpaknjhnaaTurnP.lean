/- TurnPolygon: the reference's and the program's, and the law. -/
import Derived.Test.YtejhibpaknjhnaaTurnVec
import Derived.Test.YtejhibpaknjhnaaNegLaw
namespace Go.Proofs.Ytejhibpaknjhnaa
open Go.RowKit

def turnK (k : Int) (v : QV) : QV := turnV v k
def turnP (l : List QV) (k : Int) : List QV := if l.all isV then l.map (turnK k) else []

theorem turnP_len (l : List QV) (k : Int) : (turnP l k).length ≤ l.length := by
  unfold turnP
  split
  · simp
  · simp
theorem spec_TurnVec_ok (x y k : Int) (w : World) (h : isV (x, y) = true) : Calls Try.prog 214 #[.agg #[.int .i64 x, .int .i64 y], .int .i64 k] w fun e w' => e = .returned (.agg #[.int .i64 (turnV (x, y) k).1, .int .i64 (turnV (x, y) k).2]) ∧ More w w' := by
  have := spec_TurnVec x y k w
  rwa [turnVF, if_pos h] at this

set_option maxHeartbeats 1600000 in
theorem spec_TurnPolygon (v : Value) (l : List QV) (k0 : Int) (w : World) (hv : tVecs.at w [v] l) (hl : l.length ≤ 1048576) :
    Calls Try.prog 140 #[v, .int .i64 k0] w fun e w' => ∃ v', e = .returned v' ∧ More w w' ∧ tVecs.fresh w.heap.size w' [v'] (turnP l k0) := by
  obtain ⟨ao, cap, rfl⟩ := sl_len hv
  have HV := Lib.hid hv; clear hv
  obtain ⟨n, hn⟩ : ∃ n, n = l.length := ⟨_, rfl⟩
  rw [← hn] at HV hl ⊢
  have HN := Lib.hid hn; clear hn
  obtain ⟨i0, hi, hz0, hz1, hz2⟩ := info_parts infoVec
  go_enter Try.func140, Try.ntmps140
  go_wp2_with fail
  go_loopw [5, 11] (fun v i wr => ∃ k : Nat, k ≤ n ∧ i = .int .i64 k ∧ More w wr ∧ Hid (ListOwn tVec w.heap.size 30 wr v ((l.map (turnK k0)).take k)) ∧ Hid ((l.take k).all isV = true)) (fun _ i _ => n - (intOf i).toNat)
  case atStart => exact ⟨0, Nat.zero_le _, rfl, (Turns.more (by repeat (first | (with_reducible exact Turns.refl _ _) | (with_reducible apply Turns.drew) | (with_reducible apply Turns.drewN) | (with_reducible apply Turns.alloc) | (with_reducible refine Turns.via (by assumption) ?_)))), Lib.hid (ListOwn.lit (Nat.le_refl _)), Lib.hid rfl⟩
  case round =>
    obtain ⟨k, hk, rfl, hm, HL, HA⟩ := hrel
    by_cases hlt : k < n
    · obtain ⟨b, off, x, y, rfl, hblt, hx, ox, oy, c0, c1⟩ := vec_el (Ty.at_more HV.out hm) (k := k) (by rw [← HN.out]; exact hlt)
      have HX := Lib.hid hx; clear hx
      rcases Bool.eq_false_or_eq_true (isV (x, y)) with hb | hb
      · have HB := Lib.hid hb
        obtain ⟨⟨tx0, tx1⟩, ty0, ty1⟩ := isV_iff.1 (show isV ((turnV (x, y) k0).1, (turnV (x, y) k0).2) = true from turnV_isV HB.out)
        have OTX : Hid (In64 (turnV (x, y) k0).1) := In64.small (by omega)
        have OTY : Hid (In64 (turnV (x, y) k0).2) := In64.small (by omega)
        have OX := Lib.hid ox; have OY := Lib.hid oy; clear ox oy
        have hlen : ((l.map (turnK k0)).take k).length ≤ 2097152 := by rw [List.length_take, List.length_map, ← HN.out]; omega
        have HLen := Lib.hid hlen; clear hlen
        go_wp2_with (first | (go_at_call 197; refine (spec_IsValidVec _ _ _).mono ?_; rintro e w1 ⟨rfl, hb1⟩; obtain ⟨hc1, hf1⟩ := bcell hb1; have hz1' := hb1.size) | (go_at_call 214; refine (spec_TurnVec_ok _ _ _ _ HB.out).mono ?_; rintro e w1 ⟨rfl, hb1⟩; obtain ⟨hc1, hf1⟩ := bcell hb1; have hz1' := hb1.size) | (at_builtin; refine wpList_pushOwn tVec wr rfl _ _ 25 rfl w.heap.size 30 i0 (.agg #[.int .i64 0, .int .i64 0]) 16 Try.underlying25 hi hz0 hz1 hz2 rfl (by decide) rfl HL.out (Turns.more (by repeat (first | (with_reducible exact Turns.refl _ _) | (with_reducible apply Turns.drew) | (with_reducible apply Turns.drewN) | (with_reducible apply Turns.alloc) | (with_reducible refine Turns.via (by assumption) ?_)))) rfl (by simp) (vec_fresh (x := (turnV (x, y) k0).1) (y := (turnV (x, y) k0).2) OTX.out OTY.out) HLen (by decide) (Lib.hid hm.size) ?_))
        intro v' w2 hl2 hmw
        go_wp2_with fail
        go_roundw
        case rel => exact ⟨k + 1, by omega, by go_num, hmw _ rfl (Turns.more (by repeat (first | (with_reducible exact Turns.refl _ _) | (with_reducible apply Turns.drew) | (with_reducible apply Turns.drewN) | (with_reducible apply Turns.alloc) | (with_reducible refine Turns.via (by assumption) ?_)))), Lib.hid (by rw [take_map_next HX.out]; exact hl2), Lib.hid (all_take_next HX.out HA.out hb)⟩
        case measure => simp [intOf]; omega
      · go_wp2_with (go_at_call 197; refine (spec_IsValidVec _ _ _).mono ?_; rintro e w1 ⟨rfl, hb1⟩; obtain ⟨hc1, hf1⟩ := bcell hb1; have hz1' := hb1.size)
        go_ret
        exact ⟨_, rfl, (Turns.more (by repeat (first | (with_reducible exact Turns.refl _ _) | (with_reducible apply Turns.drew) | (with_reducible apply Turns.drewN) | (with_reducible apply Turns.alloc) | (with_reducible refine Turns.via (by assumption) ?_)))), by rw [turnP, all_false HX.out hb]; exact nil_fresh⟩
    · go_wp2_with fail
      go_ret
      obtain rfl : k = n := by omega
      exact ⟨_, rfl, hm, by
        have h1 := HL.out.fresh
        have h2 := HA.out
        rw [HN.out, List.take_length] at h2
        rw [List.take_of_length_le (by rw [List.length_map, HN.out]; exact Nat.le_refl _)] at h1
        rw [turnP, if_pos h2]
        exact h1⟩

set_option maxHeartbeats 1600000 in
theorem impl_TurnPolygon (v : Value) (l : List QV) (k0 : Int) (w : World) (hv : tVecs.at w [v] l) (hl : l.length ≤ 1048576) :
    Calls Try.prog 47 #[v, .int .i64 k0] w fun e w' => ∃ v', e = .returned v' ∧ More w w' ∧ tVecs.fresh w.heap.size w' [v'] (turnP l k0) := by
  have HV0 := Lib.hid hv
  obtain ⟨ao, cap, rfl⟩ := sl_len hv
  have HV := Lib.hid hv; clear hv
  obtain ⟨n, hn⟩ : ∃ n, n = l.length := ⟨_, rfl⟩
  rw [← hn] at HV HV0 hl ⊢
  have HN := Lib.hid hn; clear hn
  obtain ⟨i0, hi, hz0, hz1, hz2⟩ := info_parts infoVec
  rcases Bool.eq_false_or_eq_true (l.all isV) with ha | ha
  · go_enter Try.func47, Try.ntmps47
    have HA := Lib.hid ha
    go_wp2_with (go_at_call 112; refine (impl_areVecs _ l _ HV0.out (by rw [← HN.out]; omega)).mono ?_; rintro e w1 ⟨rfl, hb1⟩)
    clear ha
    go_loopw [5, 14] (fun v i wr => ∃ k : Nat, k ≤ n ∧ i = .int .i64 k ∧ More w wr ∧ Hid (ListOwn tVec w.heap.size 30 wr v ((l.map (turnK k0)).take k))) (fun _ i _ => n - (intOf i).toNat)
    case atStart => exact ⟨0, Nat.zero_le _, rfl, (Turns.more (by repeat (first | (with_reducible exact Turns.refl _ _) | (with_reducible apply Turns.drew) | (with_reducible apply Turns.drewN) | (with_reducible apply Turns.alloc) | (with_reducible refine Turns.via (by assumption) ?_)))), Lib.hid (ListOwn.lit hb1.size)⟩
    case round =>
      obtain ⟨k, hk, rfl, hm, HL⟩ := hrel
      by_cases hlt : k < n
      · obtain ⟨b, off, x, y, rfl, hblt, hx, ox, oy, c0, c1⟩ := vec_el (Ty.at_more HV.out hm) (k := k) (by rw [← HN.out]; exact hlt)
        have HB := Lib.hid (List.all_eq_true.1 HA.out (x, y) (List.mem_of_getElem? hx))
        obtain ⟨⟨tx0, tx1⟩, ty0, ty1⟩ := isV_iff.1 (show isV ((turnV (x, y) k0).1, (turnV (x, y) k0).2) = true from turnV_isV HB.out)
        have OTX : Hid (In64 (turnV (x, y) k0).1) := In64.small (by omega)
        have OTY : Hid (In64 (turnV (x, y) k0).2) := In64.small (by omega)
        have HX := Lib.hid hx; clear hx
        have OX := Lib.hid ox; have OY := Lib.hid oy; clear ox oy
        have hlen : ((l.map (turnK k0)).take k).length ≤ 2097152 := by rw [List.length_take, List.length_map, ← HN.out]; omega
        have HLen := Lib.hid hlen; clear hlen
        go_wp2_with (first | (go_at_call 129; refine (impl_turnVec _ _ _ _ HB.out).mono ?_; rintro e w1 ⟨rfl, hb1⟩) | (at_builtin; refine wpList_pushOwn tVec wr rfl _ _ 25 rfl w.heap.size 30 i0 (.agg #[.int .i64 0, .int .i64 0]) 16 Try.underlying25 hi hz0 hz1 hz2 rfl (by decide) rfl HL.out (Turns.more (by repeat (first | (with_reducible exact Turns.refl _ _) | (with_reducible apply Turns.drew) | (with_reducible apply Turns.drewN) | (with_reducible apply Turns.alloc) | (with_reducible refine Turns.via (by assumption) ?_)))) rfl (by simp) (vec_fresh (x := (turnV (x, y) k0).1) (y := (turnV (x, y) k0).2) OTX.out OTY.out) HLen (by decide) (Lib.hid hm.size) ?_))
        intro v' w2 hl2 hmw
        go_wp2_with fail
        go_roundw
        case rel => exact ⟨k + 1, by omega, by go_num, hmw _ rfl (Turns.more (by repeat (first | (with_reducible exact Turns.refl _ _) | (with_reducible apply Turns.drew) | (with_reducible apply Turns.drewN) | (with_reducible apply Turns.alloc) | (with_reducible refine Turns.via (by assumption) ?_)))), Lib.hid (by rw [take_map_next HX.out]; exact hl2)⟩
        case measure => simp [intOf]; omega
      · go_wp2_with fail
        go_ret
        obtain rfl : k = n := by omega
        exact ⟨_, rfl, hm, by
          have h1 := HL.out.fresh
          rw [List.take_of_length_le (by rw [List.length_map, HN.out]; exact Nat.le_refl _)] at h1
          rw [turnP, if_pos HA.out]
          exact h1⟩
  · go_enter Try.func47, Try.ntmps47
    go_wp2_with (go_at_call 112; refine (impl_areVecs _ l _ HV0.out (by rw [← HN.out]; omega)).mono ?_; rintro e w1 ⟨rfl, hb1⟩)
    go_ret
    exact ⟨_, rfl, hb1, by rw [turnP, ha]; exact nil_fresh⟩
end Go.Proofs.Ytejhibpaknjhnaa
