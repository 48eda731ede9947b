/- toEdge: the copy of a value of this kind in new memory. -/

import Derived.Test.YteihkhniibncnaaGreatGBase
import Derived.Test.YteihkhniibncnaaGreatGVec
import Derived.Deep.RegionHeld3
namespace Go.Proofs.YteihkhniibncnaaGreat
open Go.RowKit

set_option maxHeartbeats 3200000 in
theorem laws_toEdge (cs : List Value) (x : QE) (w : World) (hv : tEdge.at w cs x) :
    Calls Tryz.prog 11 #[.agg cs.toArray] w fun e w' => e = .returned (.agg cs.toArray) ∧ More w w' := by
  obtain ⟨k0, d0, rfl, f0, e0⟩ := at_prod hv
  obtain ⟨k1, d1, rfl, f1, e1⟩ := at_prod e0
  obtain ⟨k2, d2, rfl, f2, e2⟩ := at_prod e1
  have f3 := e2; clear e2
  obtain rfl := sh_Vec f0
  have F0 := Lib.hid f0; clear f0
  obtain rfl := sh_Vec f1
  have F1 := Lib.hid f1; clear f1
  obtain rfl := sh_int f2
  have F2 := Lib.hid f2; clear f2
  obtain rfl := sh_bool f3
  have F3 := Lib.hid f3; clear f3
  show Calls Tryz.prog 11 #[.agg #[.int .i64 x.1.1, .int .i64 x.1.2, .int .i64 x.2.1.1, .int .i64 x.2.1.2, .int .i64 x.2.2.1, .bool x.2.2.2]] w fun e w' => e = .returned (.agg #[.int .i64 x.1.1, .int .i64 x.1.2, .int .i64 x.2.1.1, .int .i64 x.2.1.2, .int .i64 x.2.2.1, .bool x.2.2.2]) ∧ More w w'
  go_enter Tryz.func11, Tryz.ntmps11
  go_wp2_with fail
  refine (laws_toVec _ _ _).mono ?_
  rintro e w1 ⟨rfl, hb1⟩
  obtain ⟨hc1, hf1⟩ := bcell hb1
  have hs1_0 : w.heap.size < w1.heap.size := by have := hb1.size; (try simp at this); first | done | omega
  have hs1_1 : w.heap.size + 1 < w1.heap.size := by have := hb1.size; (try simp at this); first | done | omega
  have hs1_2 : w.heap.size + 2 < w1.heap.size := by have := hb1.size; (try simp at this); first | done | omega
  go_wp2_with fail
  refine (laws_toVec _ _ _).mono ?_
  rintro e w2 ⟨rfl, hb2⟩
  obtain ⟨hc2, hf2⟩ := bcell hb2
  have hs2_0 : w.heap.size < w2.heap.size := by have := hb2.size; (try simp at this); first | done | omega
  have hs2_1 : w.heap.size + 1 < w2.heap.size := by have := hb2.size; (try simp at this); first | done | omega
  have hs2_2 : w.heap.size + 2 < w2.heap.size := by have := hb2.size; (try simp at this); first | done | omega
  have hz2 : w1.heap.size ≤ w2.heap.size := by have := hb2.size; (try simp at this); omega
  go_wp2_with fail
  refine bodyPost_ret (v := .agg #[.int .i64 x.1.1, .int .i64 x.1.2, .int .i64 x.2.1.1, .int .i64 x.2.1.2, .int .i64 x.2.2.1, .bool x.2.2.2]) ?_ rfl ⟨rfl, ?_⟩
  · simp [results, Tryz.results11, go_sem, *]
  · exact mC2
end Go.Proofs.YteihkhniibncnaaGreat
