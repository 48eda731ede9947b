/- toStep: the copy of a value of this kind in new memory. -/
import Derived.Test.YteihkhniibncnaaToPoint
import Derived.Test.YteihkhniibncnaaGBase
import Derived.Test.YteihkhniibncnaaGVec
import Derived.Deep.RegionHeld3
namespace Go.Proofs.Yteihkhniibncnaa
open Go.RowKit

set_option maxHeartbeats 3200000 in
theorem laws_toStep (cs : List Value) (x : QStep) (w : World) (hv : tStep.at w cs x) (hw : wStep x ≤ 1048576) :
    Calls Try.prog 69 #[.agg cs.toArray] w fun e w' => ∃ cs' : List Value, e = .returned (.agg cs'.toArray) ∧ More w w' ∧ tStep.fresh w.heap.size w' cs' x := by
  have HW := Lib.hid hw; clear hw
  obtain ⟨k0, d0, rfl, f0, e0⟩ := at_prod hv
  have f1 := e0; clear e0
  obtain rfl := sh_int f0
  have F0 := Lib.hid f0; clear f0
  obtain ⟨z1a1, z1n1, z1c1, z1a2, z1n2, z1c2, z1a4, z1n4, z1c4, z1a5, z1n5, z1c5, rfl⟩ := sh_Point f1
  have F1 := Lib.hid f1; clear f1
  show Calls Try.prog 69 #[.agg #[.int .i64 x.1, .bool x.2.1.1.1, .slice z1a1 z1n1 z1c1, .slice z1a2 z1n2 z1c2, .bool x.2.2.1.1, .slice z1a4 z1n4 z1c4, .slice z1a5 z1n5 z1c5]] w _
  go_enter Try.func69, Try.ntmps69
  go_wp2_with fail
  refine (laws_toPoint _ x.2 _ (Ty.at_more F1.out mC2) (by have := HW.out; unfold wStep at this; omega)).mono ?_
  rintro e w1 ⟨r1, rfl, hb1, g1⟩
  obtain ⟨y1a1, y1n1, y1c1, y1a2, y1n2, y1c2, y1a4, y1n4, y1c4, y1a5, y1n5, y1c5, rfl⟩ := sh_Point (Ty.fresh_at g1)
  have G1 := Lib.hid g1; clear g1
  obtain ⟨hc1, hf1⟩ := bcell hb1
  have hs1_0 : w.heap.size < w1.heap.size := by have := hb1.size; (try simp at this); first | done | omega
  have hs1_1 : w.heap.size + 1 < w1.heap.size := by have := hb1.size; (try simp at this); first | done | omega
  have hs1_2 : w.heap.size + 2 < w1.heap.size := by have := hb1.size; (try simp at this); first | done | omega
  have key : ∀ W', Turns [w.heap.size + 1, w.heap.size + 2] w1 W' → tStep.fresh w.heap.size W' [.int .i64 x.1, .bool x.2.1.1.1, .slice y1a1 y1n1 y1c1, .slice y1a2 y1n2 y1c2, .bool x.2.2.1.1, .slice y1a4 y1n4 y1c4, .slice y1a5 y1n5 y1c5] x := by
    intro W' t1
    have hbs : ∀ k ∈ [w.heap.size + 1, w.heap.size + 2], k < w.heap.size + 3 := by intro k hk; simp only [List.mem_cons, List.not_mem_nil, or_false] at hk; omega
    have q1 := Ty.fresh_turns (bs := [w.heap.size + 1, w.heap.size + 2]) (Ty.fresh_mono G1.out (B' := w.heap.size + 3) (by simp)) t1 (fun k hk => by have := hbs k hk; omega)
    have q0 := Ty.fresh_flat fInt (x := x.1) rfl (int_in F0.out) q1
    exact Ty.fresh_mono (B' := w.heap.size) q0 (by omega)
  have KEY := Lib.hid key; clear key
  go_wp2_with fail
  refine bodyPost_ret (v := .agg #[.int .i64 x.1, .bool x.2.1.1.1, .slice y1a1 y1n1 y1c1, .slice y1a2 y1n2 y1c2, .bool x.2.2.1.1, .slice y1a4 y1n4 y1c4, .slice y1a5 y1n5 y1c5]) ?_ rfl ⟨[.int .i64 x.1, .bool x.2.1.1.1, .slice y1a1 y1n1 y1c1, .slice y1a2 y1n2 y1c2, .bool x.2.2.1.1, .slice y1a4 y1n4 y1c4, .slice y1a5 y1n5 y1c5], rfl, ?_, ?_⟩
  · simp [results, Try.results69, go_sem, *]
  · exact mC2
  · refine KEY.out _ ?_
    · exact tC
end Go.Proofs.Yteihkhniibncnaa
