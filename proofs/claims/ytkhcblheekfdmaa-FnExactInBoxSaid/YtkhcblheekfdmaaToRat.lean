/- toRat: the copy of a value of this kind in new memory. -/
import Derived.Test.YtkhcblheekfdmaaToBigInt
import Derived.Test.YtkhcblheekfdmaaToIntS
import Derived.Test.YtkhcblheekfdmaaKin
import Derived.Test.YtkhcblheekfdmaaVecS
import Derived.Deep.RegionHeld3
namespace Go.Proofs.Ytkhcblheekfdmaa
open Go.RowKit

set_option maxHeartbeats 3200000 in
theorem laws_toRat (cs : List Value) (x : QR) (w : World) (hv : tRat.at w cs x) (hw : wRat x ≤ 1048576) :
    Calls Try.prog 40 #[.agg cs.toArray] w fun e w' => ∃ cs' : List Value, e = .returned (.agg cs'.toArray) ∧ More w w' ∧ tRat.fresh w.heap.size w' cs' x := by
  have HW := Lib.hid hw; clear hw
  obtain ⟨k0, d0, rfl, f0, e0⟩ := at_prod hv
  have f1 := e0; clear e0
  obtain ⟨z0a1, z0n1, z0c1, rfl⟩ := sh_BigInt f0
  have F0 := Lib.hid f0; clear f0
  obtain ⟨z1a0, z1n0, z1c0, rfl⟩ := sh_slice f1
  have F1 := Lib.hid f1; clear f1
  show Calls Try.prog 40 #[.agg #[.bool x.1.1, .slice z0a1 z0n1 z0c1, .slice z1a0 z1n0 z1c0]] w _
  go_enter Try.func40, Try.ntmps40
  go_wp2_with fail
  refine (laws_toBigInt _ x.1 _ (Ty.at_more F0.out (Turns.more (by repeat (first | (with_reducible exact Turns.refl _ _) | (with_reducible apply Turns.drew) | (with_reducible apply Turns.drewN) | (with_reducible apply Turns.alloc) | (with_reducible refine Turns.setCellR ?_ (by simp <;> omega) _) | (with_reducible refine Turns.via (by assumption) ?_))))) (by have := HW.out; unfold wRat at this; omega)).mono ?_
  rintro e w1 ⟨r1, rfl, hb1, g1⟩
  obtain ⟨y1a1, y1n1, y1c1, rfl⟩ := sh_BigInt (Ty.fresh_at g1)
  have G1 := Lib.hid g1; clear g1
  obtain ⟨hc1, hf1⟩ := bcell hb1
  have hs1_0 : w.heap.size < w1.heap.size := by have := hb1.size; (try simp at this); first | done | omega
  have hs1_1 : w.heap.size + 1 < w1.heap.size := by have := hb1.size; (try simp at this); first | done | omega
  have hs1_2 : w.heap.size + 2 < w1.heap.size := by have := hb1.size; (try simp at this); first | done | omega
  go_wp2_with fail
  refine (laws_toIntS _ x.2 _ (Ty.at_more F1.out (Turns.more (by repeat (first | (with_reducible exact Turns.refl _ _) | (with_reducible apply Turns.drew) | (with_reducible apply Turns.drewN) | (with_reducible apply Turns.alloc) | (with_reducible refine Turns.setCellR ?_ (by simp <;> omega) _) | (with_reducible refine Turns.via (by assumption) ?_))))) (by have := HW.out; unfold wRat at this; omega)).mono ?_
  rintro e w2 ⟨r2, rfl, hb2, g2⟩
  obtain ⟨y2a0, y2n0, y2c0, er2⟩ := sh_slice (Ty.fresh_at g2); simp only [List.cons.injEq, and_true] at er2; subst er2
  have G2 := Lib.hid g2; clear g2
  obtain ⟨hc2, hf2⟩ := bcell hb2
  have hs2_0 : w.heap.size < w2.heap.size := by have := hb2.size; (try simp at this); first | done | omega
  have hs2_1 : w.heap.size + 1 < w2.heap.size := by have := hb2.size; (try simp at this); first | done | omega
  have hs2_2 : w.heap.size + 2 < w2.heap.size := by have := hb2.size; (try simp at this); first | done | omega
  have hz2 : w1.heap.size ≤ w2.heap.size := by have := hb2.size; (try simp at this); omega
  have key : ∀ W', Turns [w.heap.size + 1, w.heap.size + 2] w1 W' → Turns [w.heap.size + 1, w.heap.size + 2] w2 W' → tRat.fresh w.heap.size W' [.bool x.1.1, .slice y1a1 y1n1 y1c1, .slice y2a0 y2n0 y2c0] x := by
    intro W' t1 t2
    have hbs : ∀ k ∈ [w.heap.size + 1, w.heap.size + 2], k < w.heap.size + 3 := by intro k hk; simp only [List.mem_cons, List.not_mem_nil, or_false] at hk; omega
    have q1 := Ty.fresh_turns (bs := [w.heap.size + 1, w.heap.size + 2]) (Ty.fresh_mono G2.out (B' := w1.heap.size) (by simp)) t2 (fun k hk => by have := hbs k hk; omega)
    have q0 := Ty.fresh_pairT (bs := [w.heap.size + 1, w.heap.size + 2]) (B := w.heap.size + 3) (Ty.fresh_mono G1.out (by simp)) t1 (fun k hk => by have := hbs k hk; omega) (Ty.fresh_mono q1 (by omega)) (by omega)
    exact Ty.fresh_mono (B' := w.heap.size) q0 (by omega)
  have KEY := Lib.hid key; clear key
  go_wp2_with fail
  refine bodyPost_ret (v := .agg #[.bool x.1.1, .slice y1a1 y1n1 y1c1, .slice y2a0 y2n0 y2c0]) ?_ rfl ⟨[.bool x.1.1, .slice y1a1 y1n1 y1c1, .slice y2a0 y2n0 y2c0], rfl, ?_, ?_⟩
  · simp [results, Try.results40, go_sem, *]
  · exact (Turns.more (by repeat (first | (with_reducible exact Turns.refl _ _) | (with_reducible apply Turns.drew) | (with_reducible apply Turns.drewN) | (with_reducible apply Turns.alloc) | (with_reducible refine Turns.setCellR ?_ (by simp <;> omega) _) | (with_reducible refine Turns.via (by assumption) ?_))))
  · refine KEY.out _ ?_ ?_
    · exact (by repeat (first | (with_reducible exact Turns.refl _ _) | (with_reducible apply Turns.drew) | (with_reducible apply Turns.drewN) | (with_reducible apply Turns.alloc) | (with_reducible refine Turns.setCell ?_ (by first | (left; simp; done) | (right; simp <;> omega)) _) | (with_reducible refine Turns.via (by assumption) ?_)))
    · exact (by repeat (first | (with_reducible exact Turns.refl _ _) | (with_reducible apply Turns.drew) | (with_reducible apply Turns.drewN) | (with_reducible apply Turns.alloc) | (with_reducible refine Turns.setCell ?_ (by first | (left; simp; done) | (right; simp <;> omega)) _) | (with_reducible refine Turns.via (by assumption) ?_)))
end Go.Proofs.Ytkhcblheekfdmaa
