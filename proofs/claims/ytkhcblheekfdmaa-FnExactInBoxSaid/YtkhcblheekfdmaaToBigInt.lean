/- toBigInt: the copy of a value of this kind in new memory. -/
import Derived.Test.YtkhcblheekfdmaaToIntS
import Derived.Test.YtkhcblheekfdmaaKin
import Derived.Test.YtkhcblheekfdmaaVecS
import Derived.Deep.RegionHeld3
namespace Go.Proofs.Ytkhcblheekfdmaa
open Go.RowKit

set_option maxHeartbeats 3200000 in
theorem laws_toBigInt (cs : List Value) (x : Bool × List Int) (w : World) (hv : tBig.at w cs x) (hw : wBigInt x ≤ 1048576) :
    Calls Try.prog 104 #[.agg cs.toArray] w fun e w' => ∃ cs' : List Value, e = .returned (.agg cs'.toArray) ∧ More w w' ∧ tBig.fresh w.heap.size w' cs' x := by
  have HW := Lib.hid hw; clear hw
  obtain ⟨k0, d0, rfl, f0, e0⟩ := at_prod hv
  have f1 := e0; clear e0
  obtain rfl := sh_bool f0
  have F0 := Lib.hid f0; clear f0
  obtain ⟨z1a0, z1n0, z1c0, rfl⟩ := sh_slice f1
  have F1 := Lib.hid f1; clear f1
  show Calls Try.prog 104 #[.agg #[.bool x.1, .slice z1a0 z1n0 z1c0]] w _
  go_enter Try.func104, Try.ntmps104
  go_wp2_with fail
  refine (laws_toIntS _ x.2 _ (Ty.at_more F1.out (Turns.more (by repeat (first | (with_reducible exact Turns.refl _ _) | (with_reducible apply Turns.drew) | (with_reducible apply Turns.drewN) | (with_reducible apply Turns.alloc) | (with_reducible refine Turns.setCellR ?_ (by simp <;> omega) _) | (with_reducible refine Turns.via (by assumption) ?_))))) (by have := HW.out; unfold wBigInt at this; omega)).mono ?_
  rintro e w1 ⟨r1, rfl, hb1, g1⟩
  obtain ⟨y1a0, y1n0, y1c0, er1⟩ := sh_slice (Ty.fresh_at g1); simp only [List.cons.injEq, and_true] at er1; subst er1
  have G1 := Lib.hid g1; clear g1
  obtain ⟨hc1, hf1⟩ := bcell hb1
  have hs1_0 : w.heap.size < w1.heap.size := by have := hb1.size; (try simp at this); first | done | omega
  have hs1_1 : w.heap.size + 1 < w1.heap.size := by have := hb1.size; (try simp at this); first | done | omega
  have hs1_2 : w.heap.size + 2 < w1.heap.size := by have := hb1.size; (try simp at this); first | done | omega
  have key : ∀ W', Turns [w.heap.size + 1, w.heap.size + 2] w1 W' → tBig.fresh w.heap.size W' [.bool x.1, .slice y1a0 y1n0 y1c0] x := by
    intro W' t1
    have hbs : ∀ k ∈ [w.heap.size + 1, w.heap.size + 2], k < w.heap.size + 3 := by intro k hk; simp only [List.mem_cons, List.not_mem_nil, or_false] at hk; omega
    have q1 := Ty.fresh_turns (bs := [w.heap.size + 1, w.heap.size + 2]) (Ty.fresh_mono G1.out (B' := w.heap.size + 3) (by simp)) t1 (fun k hk => by have := hbs k hk; omega)
    have q0 := Ty.fresh_flat fBool (x := x.1) rfl trivial q1
    exact Ty.fresh_mono (B' := w.heap.size) q0 (by omega)
  have KEY := Lib.hid key; clear key
  go_wp2_with fail
  refine bodyPost_ret (v := .agg #[.bool x.1, .slice y1a0 y1n0 y1c0]) ?_ rfl ⟨[.bool x.1, .slice y1a0 y1n0 y1c0], rfl, ?_, ?_⟩
  · simp [results, Try.results104, go_sem, *]
  · exact (Turns.more (by repeat (first | (with_reducible exact Turns.refl _ _) | (with_reducible apply Turns.drew) | (with_reducible apply Turns.drewN) | (with_reducible apply Turns.alloc) | (with_reducible refine Turns.setCellR ?_ (by simp <;> omega) _) | (with_reducible refine Turns.via (by assumption) ?_))))
  · refine KEY.out _ ?_
    · exact (by repeat (first | (with_reducible exact Turns.refl _ _) | (with_reducible apply Turns.drew) | (with_reducible apply Turns.drewN) | (with_reducible apply Turns.alloc) | (with_reducible refine Turns.setCell ?_ (by first | (left; simp; done) | (right; simp <;> omega)) _) | (with_reducible refine Turns.via (by assumption) ?_)))
end Go.Proofs.Ytkhcblheekfdmaa
