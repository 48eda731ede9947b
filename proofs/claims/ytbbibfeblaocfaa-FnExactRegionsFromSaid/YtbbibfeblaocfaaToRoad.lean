/- toRoad: the copy of a value of this kind in new memory. -/
import Derived.Test.YtbbibfeblaocfaaToScene
import Derived.Test.YtbbibfeblaocfaaToSliceS
import Derived.Test.YtbbibfeblaocfaaGHelp
import Derived.Test.YtbbibfeblaocfaaToIntSS
import Derived.Test.YtbbibfeblaocfaaGBase
import Derived.Test.YtbbibfeblaocfaaGVec
import Derived.Deep.RegionHeld3
namespace Go.Proofs.Ytbbibfeblaocfaa
open Go.RowKit

set_option maxHeartbeats 3200000 in
theorem laws_toRoad (cs : List Value) (x : QRoad) (w : World) (hv : tRoad.at w cs x) (hw : wRoad x ≤ 1048576) :
    Calls Try.prog 36 #[.agg cs.toArray] w fun e w' => ∃ cs' : List Value, e = .returned (.agg cs'.toArray) ∧ More w w' ∧ tRoad.fresh w.heap.size w' cs' x := by
  have HW := Lib.hid hw; clear hw
  obtain ⟨k0, d0, rfl, f0, e0⟩ := at_prod hv
  obtain ⟨k1, d1, rfl, f1, e1⟩ := at_prod e0
  obtain ⟨k2, d2, rfl, f2, e2⟩ := at_prod e1
  have f3 := e2; clear e2
  obtain ⟨z0a4, z0n4, z0c4, z0a5, z0n5, z0c5, z0a6, z0n6, z0c6, rfl⟩ := sh_Scene f0
  have F0 := Lib.hid f0; clear f0
  obtain ⟨z1a0, z1n0, z1c0, rfl⟩ := sh_slice f1
  have F1 := Lib.hid f1; clear f1
  obtain ⟨z2a0, z2n0, z2c0, rfl⟩ := sh_slice f2
  have F2 := Lib.hid f2; clear f2
  obtain ⟨z3a0, z3n0, z3c0, rfl⟩ := sh_slice f3
  have F3 := Lib.hid f3; clear f3
  show Calls Try.prog 36 #[.agg #[.int .i64 x.1.1.1, .int .i64 x.1.1.2, .int .i64 x.1.2.1.1, .int .i64 x.1.2.1.2, .slice z0a4 z0n4 z0c4, .slice z0a5 z0n5 z0c5, .slice z0a6 z0n6 z0c6, .slice z1a0 z1n0 z1c0, .slice z2a0 z2n0 z2c0, .slice z3a0 z3n0 z3c0]] w _
  go_enter Try.func36, Try.ntmps36
  go_wp2_with fail
  refine (laws_toScene _ x.1 _ (Ty.at_more F0.out mC2) (by have := HW.out; unfold wRoad at this; omega)).mono ?_
  rintro e w1 ⟨r1, rfl, hb1, g1⟩
  obtain ⟨y1a4, y1n4, y1c4, y1a5, y1n5, y1c5, y1a6, y1n6, y1c6, rfl⟩ := sh_Scene (Ty.fresh_at g1)
  have G1 := Lib.hid g1; clear g1
  obtain ⟨hc1, hf1⟩ := bcell hb1
  have hs1_0 : w.heap.size < w1.heap.size := by have := hb1.size; (try simp at this); first | done | omega
  have hs1_1 : w.heap.size + 1 < w1.heap.size := by have := hb1.size; (try simp at this); first | done | omega
  have hs1_2 : w.heap.size + 2 < w1.heap.size := by have := hb1.size; (try simp at this); first | done | omega
  go_wp2_with fail
  refine (laws_toSliceS _ x.2.1 _ (Ty.at_more F1.out mC2) (by have := HW.out; unfold wRoad at this; omega)).mono ?_
  rintro e w2 ⟨r2, rfl, hb2, g2⟩
  obtain ⟨y2a0, y2n0, y2c0, er2⟩ := sh_slice (Ty.fresh_at g2); simp only [List.cons.injEq, and_true] at er2; subst er2
  have G2 := Lib.hid g2; clear g2
  obtain ⟨hc2, hf2⟩ := bcell hb2
  have hs2_0 : w.heap.size < w2.heap.size := by have := hb2.size; (try simp at this); first | done | omega
  have hs2_1 : w.heap.size + 1 < w2.heap.size := by have := hb2.size; (try simp at this); first | done | omega
  have hs2_2 : w.heap.size + 2 < w2.heap.size := by have := hb2.size; (try simp at this); first | done | omega
  have hz2 : w1.heap.size ≤ w2.heap.size := by have := hb2.size; (try simp at this); omega
  go_wp2_with fail
  refine (laws_toIntS _ x.2.2.1 _ (Ty.at_more F2.out mC2) (by have := HW.out; unfold wRoad at this; omega)).mono ?_
  rintro e w3 ⟨r3, rfl, hb3, g3⟩
  obtain ⟨y3a0, y3n0, y3c0, er3⟩ := sh_slice (Ty.fresh_at g3); simp only [List.cons.injEq, and_true] at er3; subst er3
  have G3 := Lib.hid g3; clear g3
  obtain ⟨hc3, hf3⟩ := bcell hb3
  have hs3_0 : w.heap.size < w3.heap.size := by have := hb3.size; (try simp at this); first | done | omega
  have hs3_1 : w.heap.size + 1 < w3.heap.size := by have := hb3.size; (try simp at this); first | done | omega
  have hs3_2 : w.heap.size + 2 < w3.heap.size := by have := hb3.size; (try simp at this); first | done | omega
  have hz3 : w2.heap.size ≤ w3.heap.size := by have := hb3.size; (try simp at this); omega
  go_wp2_with fail
  refine (laws_toIntSS _ x.2.2.2 _ (Ty.at_more F3.out mC2) (by have := HW.out; unfold wRoad at this; omega)).mono ?_
  rintro e w4 ⟨r4, rfl, hb4, g4⟩
  obtain ⟨y4a0, y4n0, y4c0, er4⟩ := sh_slice (Ty.fresh_at g4); simp only [List.cons.injEq, and_true] at er4; subst er4
  have G4 := Lib.hid g4; clear g4
  obtain ⟨hc4, hf4⟩ := bcell hb4
  have hs4_0 : w.heap.size < w4.heap.size := by have := hb4.size; (try simp at this); first | done | omega
  have hs4_1 : w.heap.size + 1 < w4.heap.size := by have := hb4.size; (try simp at this); first | done | omega
  have hs4_2 : w.heap.size + 2 < w4.heap.size := by have := hb4.size; (try simp at this); first | done | omega
  have hz4 : w3.heap.size ≤ w4.heap.size := by have := hb4.size; (try simp at this); omega
  have key : ∀ W', Turns [w.heap.size + 1, w.heap.size + 2] w1 W' → Turns [w.heap.size + 1, w.heap.size + 2] w2 W' → Turns [w.heap.size + 1, w.heap.size + 2] w3 W' → Turns [w.heap.size + 1, w.heap.size + 2] w4 W' → tRoad.fresh w.heap.size W' [.int .i64 x.1.1.1, .int .i64 x.1.1.2, .int .i64 x.1.2.1.1, .int .i64 x.1.2.1.2, .slice y1a4 y1n4 y1c4, .slice y1a5 y1n5 y1c5, .slice y1a6 y1n6 y1c6, .slice y2a0 y2n0 y2c0, .slice y3a0 y3n0 y3c0, .slice y4a0 y4n0 y4c0] x := by
    intro W' t1 t2 t3 t4
    have hbs : ∀ k ∈ [w.heap.size + 1, w.heap.size + 2], k < w.heap.size + 3 := by intro k hk; simp only [List.mem_cons, List.not_mem_nil, or_false] at hk; omega
    have q3 := Ty.fresh_turns (bs := [w.heap.size + 1, w.heap.size + 2]) (Ty.fresh_mono G4.out (B' := w3.heap.size) (by simp)) t4 (fun k hk => by have := hbs k hk; omega)
    have q2 := Ty.fresh_pairT (bs := [w.heap.size + 1, w.heap.size + 2]) (B := w2.heap.size) (Ty.fresh_mono G3.out (by simp)) t3 (fun k hk => by have := hbs k hk; omega) (Ty.fresh_mono q3 (by omega)) (by omega)
    have q1 := Ty.fresh_pairT (bs := [w.heap.size + 1, w.heap.size + 2]) (B := w1.heap.size) (Ty.fresh_mono G2.out (by simp)) t2 (fun k hk => by have := hbs k hk; omega) (Ty.fresh_mono q2 (by omega)) (by omega)
    have q0 := Ty.fresh_pairT (bs := [w.heap.size + 1, w.heap.size + 2]) (B := w.heap.size + 3) (Ty.fresh_mono G1.out (by simp)) t1 (fun k hk => by have := hbs k hk; omega) (Ty.fresh_mono q1 (by omega)) (by omega)
    exact Ty.fresh_mono (B' := w.heap.size) q0 (by omega)
  have KEY := Lib.hid key; clear key
  go_wp2_with fail
  refine bodyPost_ret (v := .agg #[.int .i64 x.1.1.1, .int .i64 x.1.1.2, .int .i64 x.1.2.1.1, .int .i64 x.1.2.1.2, .slice y1a4 y1n4 y1c4, .slice y1a5 y1n5 y1c5, .slice y1a6 y1n6 y1c6, .slice y2a0 y2n0 y2c0, .slice y3a0 y3n0 y3c0, .slice y4a0 y4n0 y4c0]) ?_ rfl ⟨[.int .i64 x.1.1.1, .int .i64 x.1.1.2, .int .i64 x.1.2.1.1, .int .i64 x.1.2.1.2, .slice y1a4 y1n4 y1c4, .slice y1a5 y1n5 y1c5, .slice y1a6 y1n6 y1c6, .slice y2a0 y2n0 y2c0, .slice y3a0 y3n0 y3c0, .slice y4a0 y4n0 y4c0], rfl, ?_, ?_⟩
  · simp [results, Try.results36, go_sem, *]
  · exact mC2
  · refine KEY.out _ ?_ ?_ ?_ ?_
    · exact tC
    · exact tC
    · exact tC
    · exact tC
end Go.Proofs.Ytbbibfeblaocfaa
