/- NegatePolygon: the reference's and the program's, and the law. -/
import Derived.Test.YtekjjnmcccfckaaVecS
namespace Go.Proofs.Ytekjjnmcccfckaa
open Go.RowKit

def negV (v : QV) : QV := (-v.1, -v.2)
def negP (l : List QV) : List QV := if l.all isV then l.map negV else []
theorem all_false {α : Type} {p : α → Bool} {l : List α} {k : Nat} {x : α} (hx : l[k]? = some x) (h : p x = false) : l.all p = false := by
  rw [List.all_eq_false]
  exact ⟨x, List.mem_of_getElem? hx, by simp [h]⟩
theorem take_next {α : Type} {l : List α} {k : Nat} {x : α} (hx : l[k]? = some x) : l.take (k + 1) = l.take k ++ [x] := by
  obtain ⟨hk, rfl⟩ := List.getElem?_eq_some_iff.1 hx
  exact List.take_succ_eq_append_getElem hk
theorem take_map_next {α β : Type} {f : α → β} {l : List α} {k : Nat} {x : α} (hx : l[k]? = some x) : (l.map f).take (k + 1) = (l.map f).take k ++ [f x] :=
  take_next (by rw [List.getElem?_map, hx]; rfl)
theorem all_take_next {α : Type} {p : α → Bool} {l : List α} {k : Nat} {x : α} (hx : l[k]? = some x) (h : (l.take k).all p = true) (h' : p x = true) : (l.take (k + 1)).all p = true := by
  rw [take_next hx, List.all_append, h]
  simp [h']

set_option maxHeartbeats 1600000 in
theorem spec_NegatePolygon (v : Value) (l : List QV) (w : World) (hv : tVecs.at w [v] l) (hl : l.length ≤ 1048576) :
    Calls Try.prog 36 #[v] w fun e w' => ∃ v', e = .returned v' ∧ More w w' ∧ tVecs.fresh w.heap.size w' [v'] (negP l) := by
  obtain ⟨ao, cap, rfl⟩ := sl_len hv
  have HV := Lib.hid hv; clear hv
  obtain ⟨n, hn⟩ : ∃ n, n = l.length := ⟨_, rfl⟩
  rw [← hn] at HV hl ⊢
  have HN := Lib.hid hn; clear hn
  obtain ⟨i0, hi, hz0, hz1, hz2⟩ := info_parts infoVec
  go_enter Try.func36, Try.ntmps36
  go_wp2_with fail
  go_loopw [3, 9] (fun v i wr => ∃ k : Nat, k ≤ n ∧ i = .int .i64 k ∧ More w wr ∧ Hid (ListOwn tVec w.heap.size 29 wr v ((l.map negV).take k)) ∧ Hid ((l.take k).all isV = true)) (fun _ i _ => n - (intOf i).toNat)
  case atStart => exact ⟨0, Nat.zero_le _, rfl, (Turns.more (by repeat (first | (with_reducible exact Turns.refl _ _) | (with_reducible apply Turns.drew) | (with_reducible apply Turns.drewN) | (with_reducible apply Turns.alloc) | (with_reducible refine Turns.via (by assumption) ?_)))), Lib.hid (ListOwn.lit (Nat.le_refl _)), Lib.hid rfl⟩
  case round =>
    obtain ⟨k, hk, rfl, hm, HL, HA⟩ := hrel
    by_cases hlt : k < n
    · obtain ⟨b, off, x, y, rfl, hblt, hx, ox, oy, c0, c1⟩ := vec_el (Ty.at_more HV.out hm) (k := k) (by rw [← HN.out]; exact hlt)
      have HX := Lib.hid hx; clear hx
      rcases Bool.eq_false_or_eq_true (isV (x, y)) with hb | hb
      · obtain ⟨⟨bx0, bx1⟩, by0, by1⟩ := isV_iff.1 hb
        have OX := Lib.hid ox; have OY := Lib.hid oy; clear ox oy
        have hlen : ((l.map negV).take k).length ≤ 2097152 := by rw [List.length_take, List.length_map, ← HN.out]; omega
        have HLen := Lib.hid hlen; clear hlen
        go_wp2_with (first | (go_at_call 52; refine (spec_IsValidVec _ _ _).mono ?_; rintro e w1 ⟨rfl, hb1⟩; obtain ⟨hc1, hf1⟩ := bcell hb1; have hz1' := hb1.size) | (at_builtin; refine wpList_pushOwn tVec wr rfl _ _ 47 rfl w.heap.size 29 i0 (.agg #[.int .i64 0, .int .i64 0]) 16 Try.underlying47 hi hz0 hz1 hz2 rfl (by decide) rfl HL.out (Turns.more (by repeat (first | (with_reducible exact Turns.refl _ _) | (with_reducible apply Turns.drew) | (with_reducible apply Turns.drewN) | (with_reducible apply Turns.alloc) | (with_reducible refine Turns.via (by assumption) ?_)))) rfl (by simp) (vec_fresh (x := -x) (y := -y) (In64.small (by omega)) (In64.small (by omega))) HLen (by decide) (Lib.hid hm.size) ?_))
        intro v' w2 hl2 hmw
        go_wp2_with fail
        go_roundw
        case rel => exact ⟨k + 1, by omega, by go_num, hmw _ rfl (Turns.more (by repeat (first | (with_reducible exact Turns.refl _ _) | (with_reducible apply Turns.drew) | (with_reducible apply Turns.drewN) | (with_reducible apply Turns.alloc) | (with_reducible refine Turns.via (by assumption) ?_)))), Lib.hid (by rw [take_map_next HX.out]; exact hl2), Lib.hid (all_take_next HX.out HA.out hb)⟩
        case measure => simp [intOf]; omega
      · go_wp2_with (go_at_call 52; refine (spec_IsValidVec _ _ _).mono ?_; rintro e w1 ⟨rfl, hb1⟩; obtain ⟨hc1, hf1⟩ := bcell hb1; have hz1' := hb1.size)
        go_ret
        exact ⟨_, rfl, (Turns.more (by repeat (first | (with_reducible exact Turns.refl _ _) | (with_reducible apply Turns.drew) | (with_reducible apply Turns.drewN) | (with_reducible apply Turns.alloc) | (with_reducible refine Turns.via (by assumption) ?_)))), by rw [negP, all_false HX.out hb]; exact nil_fresh⟩
    · go_wp2_with fail
      go_ret
      obtain rfl : k = n := by omega
      exact ⟨_, rfl, hm, by
        have h1 := HL.out.fresh
        have h2 := HA.out
        rw [HN.out, List.take_length] at h2
        rw [List.take_of_length_le (by rw [List.length_map, HN.out]; exact Nat.le_refl _)] at h1
        rw [negP, if_pos h2]
        exact h1⟩

set_option maxHeartbeats 1600000 in
theorem impl_NegatePolygon (v : Value) (l : List QV) (w : World) (hv : tVecs.at w [v] l) (hl : l.length ≤ 1048576) :
    Calls Try.prog 37 #[v] w fun e w' => ∃ v', e = .returned v' ∧ More w w' ∧ tVecs.fresh w.heap.size w' [v'] (negP l) := by
  have HV0 := Lib.hid hv
  obtain ⟨ao, cap, rfl⟩ := sl_len hv
  have HV := Lib.hid hv; clear hv
  obtain ⟨n, hn⟩ : ∃ n, n = l.length := ⟨_, rfl⟩
  rw [← hn] at HV HV0 hl ⊢
  have HN := Lib.hid hn; clear hn
  obtain ⟨i0, hi, hz0, hz1, hz2⟩ := info_parts infoVec
  rcases Bool.eq_false_or_eq_true (l.all isV) with ha | ha
  · go_enter Try.func37, Try.ntmps37
    have HA := Lib.hid ha
    go_wp2_with (go_at_call 53; refine (impl_areVecs _ l _ HV0.out (by rw [← HN.out]; omega)).mono ?_; rintro e w1 ⟨rfl, hb1⟩)
    clear ha
    go_loopw [3, 12] (fun v i wr => ∃ k : Nat, k ≤ n ∧ i = .int .i64 k ∧ More w wr ∧ Hid (ListOwn tVec w.heap.size 29 wr v ((l.map negV).take k))) (fun _ i _ => n - (intOf i).toNat)
    case atStart => exact ⟨0, Nat.zero_le _, rfl, (Turns.more (by repeat (first | (with_reducible exact Turns.refl _ _) | (with_reducible apply Turns.drew) | (with_reducible apply Turns.drewN) | (with_reducible apply Turns.alloc) | (with_reducible refine Turns.via (by assumption) ?_)))), Lib.hid (ListOwn.lit hb1.size)⟩
    case round =>
      obtain ⟨k, hk, rfl, hm, HL⟩ := hrel
      by_cases hlt : k < n
      · obtain ⟨b, off, x, y, rfl, hblt, hx, ox, oy, c0, c1⟩ := vec_el (Ty.at_more HV.out hm) (k := k) (by rw [← HN.out]; exact hlt)
        obtain ⟨⟨bx0, bx1⟩, by0, by1⟩ := isV_iff.1 (List.all_eq_true.1 HA.out (x, y) (List.mem_of_getElem? hx))
        have HX := Lib.hid hx; clear hx
        have OX := Lib.hid ox; have OY := Lib.hid oy; clear ox oy
        have hlen : ((l.map negV).take k).length ≤ 2097152 := by rw [List.length_take, List.length_map, ← HN.out]; omega
        have HLen := Lib.hid hlen; clear hlen
        go_wp2_with (first | (at_builtin; refine wpList_pushOwn tVec wr rfl _ _ 47 rfl w.heap.size 29 i0 (.agg #[.int .i64 0, .int .i64 0]) 16 Try.underlying47 hi hz0 hz1 hz2 rfl (by decide) rfl HL.out (Turns.more (by repeat (first | (with_reducible exact Turns.refl _ _) | (with_reducible apply Turns.drew) | (with_reducible apply Turns.drewN) | (with_reducible apply Turns.alloc) | (with_reducible refine Turns.via (by assumption) ?_)))) rfl (by simp) (vec_fresh (x := -x) (y := -y) (In64.small (by omega)) (In64.small (by omega))) HLen (by decide) (Lib.hid hm.size) ?_))
        intro v' w2 hl2 hmw
        go_wp2_with fail
        go_roundw
        case rel => exact ⟨k + 1, by omega, by go_num, hmw _ rfl (Turns.more (by repeat (first | (with_reducible exact Turns.refl _ _) | (with_reducible apply Turns.drew) | (with_reducible apply Turns.drewN) | (with_reducible apply Turns.alloc) | (with_reducible refine Turns.via (by assumption) ?_)))), Lib.hid (by rw [take_map_next HX.out]; exact hl2)⟩
        case measure => simp [intOf]; omega
      · go_wp2_with fail
        go_ret
        obtain rfl : k = n := by omega
        exact ⟨_, rfl, hm, by
          have h1 := HL.out.fresh
          rw [List.take_of_length_le (by rw [List.length_map, HN.out]; exact Nat.le_refl _)] at h1
          rw [negP, if_pos HA.out]
          exact h1⟩
  · go_enter Try.func37, Try.ntmps37
    go_wp2_with (go_at_call 53; refine (impl_areVecs _ l _ HV0.out (by rw [← HN.out]; omega)).mono ?_; rintro e w1 ⟨rfl, hb1⟩)
    go_ret
    exact ⟨_, rfl, hb1, by rw [negP, ha]; exact nil_fresh⟩
end Go.Proofs.Ytekjjnmcccfckaa
