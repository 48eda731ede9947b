/- toPoint: the copy of a value of this kind in new memory. -/
import Derived.Test.YteihkhniibncnaaGreatGHelp
import Derived.Test.YteihkhniibncnaaGreatGBase
import Derived.Test.YteihkhniibncnaaGreatGVec
import Derived.Deep.RegionHeld3
namespace Go.Proofs.YteihkhniibncnaaGreat
open Go.RowKit

set_option maxHeartbeats 3200000 in
theorem laws_toPoint (cs : List Value) (x : QP) (w : World) (hv : tPoint.at w cs x) (hw : wPoint x ≤ 1048576) :
    Calls Tryz.prog 33 #[.agg cs.toArray] w fun e w' => ∃ cs' : List Value, e = .returned (.agg cs'.toArray) ∧ More w w' ∧ tPoint.fresh w.heap.size w' cs' x := by
  have HW := Lib.hid hw; clear hw
  obtain ⟨k0, d0, rfl, f0, e0⟩ := at_prod hv
  have f1 := e0; clear e0
  obtain ⟨z0a1, z0n1, z0c1, z0a2, z0n2, z0c2, rfl⟩ := sh_Rat f0
  have F0 := Lib.hid f0; clear f0
  obtain ⟨z1a1, z1n1, z1c1, z1a2, z1n2, z1c2, rfl⟩ := sh_Rat f1
  have F1 := Lib.hid f1; clear f1
  show Calls Tryz.prog 33 #[.agg #[.bool x.1.1.1, .slice z0a1 z0n1 z0c1, .slice z0a2 z0n2 z0c2, .bool x.2.1.1, .slice z1a1 z1n1 z1c1, .slice z1a2 z1n2 z1c2]] w _
  go_enter Tryz.func33, Tryz.ntmps33
  go_wp2_with fail
  refine (laws_toRat _ x.1 _ (Ty.at_more F0.out mC2) (by have := HW.out; unfold wPoint at this; omega)).mono ?_
  rintro e w1 ⟨r1, rfl, hb1, g1⟩
  obtain ⟨y1a1, y1n1, y1c1, y1a2, y1n2, y1c2, rfl⟩ := sh_Rat (Ty.fresh_at g1)
  have G1 := Lib.hid g1; clear g1
  obtain ⟨hc1, hf1⟩ := bcell hb1
  have hs1_0 : w.heap.size < w1.heap.size := by have := hb1.size; (try simp at this); first | done | omega
  have hs1_1 : w.heap.size + 1 < w1.heap.size := by have := hb1.size; (try simp at this); first | done | omega
  have hs1_2 : w.heap.size + 2 < w1.heap.size := by have := hb1.size; (try simp at this); first | done | omega
  go_wp2_with fail
  refine (laws_toRat _ x.2 _ (Ty.at_more F1.out mC2) (by have := HW.out; unfold wPoint at this; omega)).mono ?_
  rintro e w2 ⟨r2, rfl, hb2, g2⟩
  obtain ⟨y2a1, y2n1, y2c1, y2a2, y2n2, y2c2, rfl⟩ := sh_Rat (Ty.fresh_at g2)
  have G2 := Lib.hid g2; clear g2
  obtain ⟨hc2, hf2⟩ := bcell hb2
  have hs2_0 : w.heap.size < w2.heap.size := by have := hb2.size; (try simp at this); first | done | omega
  have hs2_1 : w.heap.size + 1 < w2.heap.size := by have := hb2.size; (try simp at this); first | done | omega
  have hs2_2 : w.heap.size + 2 < w2.heap.size := by have := hb2.size; (try simp at this); first | done | omega
  have hz2 : w1.heap.size ≤ w2.heap.size := by have := hb2.size; (try simp at this); omega
  have key : ∀ W', Turns [w.heap.size + 1, w.heap.size + 2] w1 W' → Turns [w.heap.size + 1, w.heap.size + 2] w2 W' → tPoint.fresh w.heap.size W' [.bool x.1.1.1, .slice y1a1 y1n1 y1c1, .slice y1a2 y1n2 y1c2, .bool x.2.1.1, .slice y2a1 y2n1 y2c1, .slice y2a2 y2n2 y2c2] x := by
    intro W' t1 t2
    have hbs : ∀ k ∈ [w.heap.size + 1, w.heap.size + 2], k < w.heap.size + 3 := by intro k hk; simp only [List.mem_cons, List.not_mem_nil, or_false] at hk; omega
    have q1 := Ty.fresh_turns (bs := [w.heap.size + 1, w.heap.size + 2]) (Ty.fresh_mono G2.out (B' := w1.heap.size) (by simp)) t2 (fun k hk => by have := hbs k hk; omega)
    have q0 := Ty.fresh_pairT (bs := [w.heap.size + 1, w.heap.size + 2]) (B := w.heap.size + 3) (Ty.fresh_mono G1.out (by simp)) t1 (fun k hk => by have := hbs k hk; omega) (Ty.fresh_mono q1 (by omega)) (by omega)
    exact Ty.fresh_mono (B' := w.heap.size) q0 (by omega)
  have KEY := Lib.hid key; clear key
  go_wp2_with fail
  refine bodyPost_ret (v := .agg #[.bool x.1.1.1, .slice y1a1 y1n1 y1c1, .slice y1a2 y1n2 y1c2, .bool x.2.1.1, .slice y2a1 y2n1 y2c1, .slice y2a2 y2n2 y2c2]) ?_ rfl ⟨[.bool x.1.1.1, .slice y1a1 y1n1 y1c1, .slice y1a2 y1n2 y1c2, .bool x.2.1.1, .slice y2a1 y2n1 y2c1, .slice y2a2 y2n2 y2c2], rfl, ?_, ?_⟩
  · simp [results, Tryz.results33, go_sem, *]
  · exact mC2
  · refine KEY.out _ ?_ ?_
    · exact tC
    · exact tC
end Go.Proofs.YteihkhniibncnaaGreat
