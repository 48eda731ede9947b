/- toScene: the copy of a value of this kind in new memory. -/
import Derived.Test.YtnndjbomfcacfaaGToS
import Derived.Test.YtnndjbomfcacfaaGBase
import Derived.Test.YtnndjbomfcacfaaGVec
import Derived.Deep.RegionHeld3
namespace Go.Proofs.Ytnndjbomfcacfaa
open Go.RowKit

set_option maxHeartbeats 3200000 in
theorem laws_toScene (cs : List Value) (x : QScene) (w : World) (hv : tScene.at w cs x) (hw : wScene x ≤ 1048576) :
    Calls Try.prog 8 #[.agg cs.toArray] w fun e w' => ∃ cs' : List Value, e = .returned (.agg cs'.toArray) ∧ More w w' ∧ tScene.fresh w.heap.size w' cs' x := by
  have HW := Lib.hid hw; clear hw
  obtain ⟨k0, d0, rfl, f0, e0⟩ := at_prod hv
  obtain ⟨k1, d1, rfl, f1, e1⟩ := at_prod e0
  obtain ⟨k2, d2, rfl, f2, e2⟩ := at_prod e1
  obtain ⟨k3, d3, rfl, f3, e3⟩ := at_prod e2
  have f4 := e3; clear e3
  obtain rfl := sh_Vec f0
  have F0 := Lib.hid f0; clear f0
  obtain rfl := sh_Vec f1
  have F1 := Lib.hid f1; clear f1
  obtain ⟨z2a0, z2n0, z2c0, rfl⟩ := sh_slice f2
  have F2 := Lib.hid f2; clear f2
  obtain ⟨z3a0, z3n0, z3c0, rfl⟩ := sh_slice f3
  have F3 := Lib.hid f3; clear f3
  obtain ⟨z4a0, z4n0, z4c0, rfl⟩ := sh_slice f4
  have F4 := Lib.hid f4; clear f4
  show Calls Try.prog 8 #[.agg #[.int .i64 x.1.1, .int .i64 x.1.2, .int .i64 x.2.1.1, .int .i64 x.2.1.2, .slice z2a0 z2n0 z2c0, .slice z3a0 z3n0 z3c0, .slice z4a0 z4n0 z4c0]] w _
  go_enter Try.func8, Try.ntmps8
  go_wp2_with fail
  refine (laws_toVec _ _ _).mono ?_
  rintro e w1 ⟨rfl, hb1⟩
  obtain ⟨hc1, hf1⟩ := bcell hb1
  have hs1_0 : w.heap.size < w1.heap.size := by have := hb1.size; (try simp at this); first | done | omega
  have hs1_1 : w.heap.size + 1 < w1.heap.size := by have := hb1.size; (try simp at this); first | done | omega
  have hs1_2 : w.heap.size + 2 < w1.heap.size := by have := hb1.size; (try simp at this); first | done | omega
  go_wp2_with fail
  refine (laws_toVec _ _ _).mono ?_
  rintro e w2 ⟨rfl, hb2⟩
  obtain ⟨hc2, hf2⟩ := bcell hb2
  have hs2_0 : w.heap.size < w2.heap.size := by have := hb2.size; (try simp at this); first | done | omega
  have hs2_1 : w.heap.size + 1 < w2.heap.size := by have := hb2.size; (try simp at this); first | done | omega
  have hs2_2 : w.heap.size + 2 < w2.heap.size := by have := hb2.size; (try simp at this); first | done | omega
  have hz2 : w1.heap.size ≤ w2.heap.size := by have := hb2.size; (try simp at this); omega
  go_wp2_with fail
  refine (laws_toVecS _ x.2.2.1 _ (Ty.at_more F2.out mC2) (show wVecS x.2.2.1 ≤ 1048576 from (by have := HW.out; unfold wScene at this; omega))).mono ?_
  rintro e w3 ⟨r3, rfl, hb3, g3⟩
  obtain ⟨y3a0, y3n0, y3c0, er3⟩ := sh_slice (Ty.fresh_at g3); simp only [List.cons.injEq, and_true] at er3; subst er3
  have G3 := Lib.hid g3; clear g3
  obtain ⟨hc3, hf3⟩ := bcell hb3
  have hs3_0 : w.heap.size < w3.heap.size := by have := hb3.size; (try simp at this); first | done | omega
  have hs3_1 : w.heap.size + 1 < w3.heap.size := by have := hb3.size; (try simp at this); first | done | omega
  have hs3_2 : w.heap.size + 2 < w3.heap.size := by have := hb3.size; (try simp at this); first | done | omega
  have hz3 : w2.heap.size ≤ w3.heap.size := by have := hb3.size; (try simp at this); omega
  go_wp2_with fail
  refine (laws_toVecSS _ x.2.2.2.1 _ (Ty.at_more F3.out mC2) (by have := HW.out; unfold wScene at this; omega)).mono ?_
  rintro e w4 ⟨r4, rfl, hb4, g4⟩
  obtain ⟨y4a0, y4n0, y4c0, er4⟩ := sh_slice (Ty.fresh_at g4); simp only [List.cons.injEq, and_true] at er4; subst er4
  have G4 := Lib.hid g4; clear g4
  obtain ⟨hc4, hf4⟩ := bcell hb4
  have hs4_0 : w.heap.size < w4.heap.size := by have := hb4.size; (try simp at this); first | done | omega
  have hs4_1 : w.heap.size + 1 < w4.heap.size := by have := hb4.size; (try simp at this); first | done | omega
  have hs4_2 : w.heap.size + 2 < w4.heap.size := by have := hb4.size; (try simp at this); first | done | omega
  have hz4 : w3.heap.size ≤ w4.heap.size := by have := hb4.size; (try simp at this); omega
  go_wp2_with fail
  refine (laws_toVecS _ x.2.2.2.2 _ (Ty.at_more F4.out mC2) (show wVecS x.2.2.2.2 ≤ 1048576 from (by have := HW.out; unfold wScene at this; omega))).mono ?_
  rintro e w5 ⟨r5, rfl, hb5, g5⟩
  obtain ⟨y5a0, y5n0, y5c0, er5⟩ := sh_slice (Ty.fresh_at g5); simp only [List.cons.injEq, and_true] at er5; subst er5
  have G5 := Lib.hid g5; clear g5
  obtain ⟨hc5, hf5⟩ := bcell hb5
  have hs5_0 : w.heap.size < w5.heap.size := by have := hb5.size; (try simp at this); first | done | omega
  have hs5_1 : w.heap.size + 1 < w5.heap.size := by have := hb5.size; (try simp at this); first | done | omega
  have hs5_2 : w.heap.size + 2 < w5.heap.size := by have := hb5.size; (try simp at this); first | done | omega
  have hz5 : w4.heap.size ≤ w5.heap.size := by have := hb5.size; (try simp at this); omega
  have key : ∀ W', Turns [w.heap.size + 1, w.heap.size + 2] w1 W' → Turns [w.heap.size + 1, w.heap.size + 2] w2 W' → Turns [w.heap.size + 1, w.heap.size + 2] w3 W' → Turns [w.heap.size + 1, w.heap.size + 2] w4 W' → Turns [w.heap.size + 1, w.heap.size + 2] w5 W' → tScene.fresh w.heap.size W' [.int .i64 x.1.1, .int .i64 x.1.2, .int .i64 x.2.1.1, .int .i64 x.2.1.2, .slice y3a0 y3n0 y3c0, .slice y4a0 y4n0 y4c0, .slice y5a0 y5n0 y5c0] x := by
    intro W' t1 t2 t3 t4 t5
    have hbs : ∀ k ∈ [w.heap.size + 1, w.heap.size + 2], k < w.heap.size + 3 := by intro k hk; simp only [List.mem_cons, List.not_mem_nil, or_false] at hk; omega
    have q4 := Ty.fresh_turns (bs := [w.heap.size + 1, w.heap.size + 2]) (Ty.fresh_mono G5.out (B' := w4.heap.size) (by simp)) t5 (fun k hk => by have := hbs k hk; omega)
    have q3 := Ty.fresh_pairT (bs := [w.heap.size + 1, w.heap.size + 2]) (B := w3.heap.size) (Ty.fresh_mono G4.out (by simp)) t4 (fun k hk => by have := hbs k hk; omega) (Ty.fresh_mono q4 (by omega)) (by omega)
    have q2 := Ty.fresh_pairT (bs := [w.heap.size + 1, w.heap.size + 2]) (B := w2.heap.size) (Ty.fresh_mono G3.out (by simp)) t3 (fun k hk => by have := hbs k hk; omega) (Ty.fresh_mono q3 (by omega)) (by omega)
    have q1 := Ty.fresh_flat fVec (x := x.2.1) rfl ((flat_at fVec F1.out).2) q2
    have q1m := Ty.fresh_mono q1 (B' := w1.heap.size) (by omega)
    have q0 := Ty.fresh_flat fVec (x := x.1) rfl ((flat_at fVec F0.out).2) q1m
    have q0m := Ty.fresh_mono q0 (B' := w.heap.size + 3) (by omega)
    exact Ty.fresh_mono (B' := w.heap.size) q0m (by omega)
  have KEY := Lib.hid key; clear key
  go_wp2_with fail
  refine bodyPost_ret (v := .agg #[.int .i64 x.1.1, .int .i64 x.1.2, .int .i64 x.2.1.1, .int .i64 x.2.1.2, .slice y3a0 y3n0 y3c0, .slice y4a0 y4n0 y4c0, .slice y5a0 y5n0 y5c0]) ?_ rfl ⟨[.int .i64 x.1.1, .int .i64 x.1.2, .int .i64 x.2.1.1, .int .i64 x.2.1.2, .slice y3a0 y3n0 y3c0, .slice y4a0 y4n0 y4c0, .slice y5a0 y5n0 y5c0], rfl, ?_, ?_⟩
  · simp [results, Try.results8, go_sem, *]
  · exact mC2
  · refine KEY.out _ ?_ ?_ ?_ ?_ ?_
    · exact tC
    · exact tC
    · exact tC
    · exact tC
    · exact tC
end Go.Proofs.Ytnndjbomfcacfaa
