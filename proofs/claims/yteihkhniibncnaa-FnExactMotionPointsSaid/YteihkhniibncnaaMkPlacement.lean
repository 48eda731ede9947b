/- markPlacement, heldPlacement: marks in what a value owns. -/
import Derived.Test.YteihkhniibncnaaMkPoint
import Derived.Test.YteihkhniibncnaaGMk
import Derived.Deep.RegionHeld3
namespace Go.Proofs.Yteihkhniibncnaa
open Go.RowKit
set_option maxHeartbeats 3200000 in
theorem laws_markPlacement_ (bs : List Nat) (cs : List Value) (x : QPlacement) (q : Int) (w : World) (hv : tPlacement.own bs w cs x) (hnd : bs.Nodup) (h0 : 0 ≤ q) (h1 : q + (cPlacement x : Nat) ≤ 1000000000) (hl : wPlacement x ≤ 1048576) :
    Calls Try.prog 28 #[.agg cs.toArray, .int .i64 q] w fun e w' => e = .returned (.int .i64 (q + (cPlacement x : Nat))) ∧ Turns bs w w' ∧ tPlacement.own bs w' cs (mkPlacement x q) := by
  obtain ⟨b0, d0, c0, e0, rfl, rfl, f0, g0⟩ := hv
  obtain ⟨rfl, rfl, o0⟩ := f0
  obtain ⟨z1a1, z1n1, z1c1, z1a2, z1n2, z1c2, z1a4, z1n4, z1c4, z1a5, z1n5, z1c5, rfl⟩ := sh_Point (Ty.rd_at (tPoint.own_rd g0))
  have hnb_ : (d0).Nodup := by simpa [List.append_assoc] using hnd
  have n0_ := hnb_; clear hnb_
  have nb1 : w.heap.size ∉ d0 := fun h => by have := tPoint.own_lt g0 _ h; omega
  have O1 := Lib.hid (Ty.own_more g0 (Turns.more ((Turns.refl [] w).alloc (.cells #[.int .i64 x.1, .bool x.2.1.1.1, .slice z1a1 z1n1 z1c1, .slice z1a2 z1n2 z1c2, .bool x.2.2.1.1, .slice z1a4 z1n4 z1c4, .slice z1a5 z1n5 z1c5] 57)))); clear g0
  have HL := Lib.hid hl; clear hl; have HC : Hid (cPlacement x = cPoint x.2) := Lib.hid rfl
  have hC := HC.out; rw [hC] at h1; clear hC
  show Calls Try.prog 28 #[.agg #[.int .i64 x.1, .bool x.2.1.1.1, .slice z1a1 z1n1 z1c1, .slice z1a2 z1n2 z1c2, .bool x.2.2.1.1, .slice z1a4 z1n4 z1c4, .slice z1a5 z1n5 z1c5], .int .i64 q] w _
  go_enter Try.func28, Try.ntmps28
  go_wp2_with fail
  refine (laws_markPoint_ d0 _ x.2 _ _ O1.out n0_ (by omega) (by omega) (by have := HL.out; unfold wPlacement at this; omega)).mono ?_
  rintro e w1 ⟨rfl, T1, P1⟩
  have O1x := Lib.hid P1; clear P1 O1; have O1 := O1x; clear O1x
  have hz1 : w.heap.size < w1.heap.size := by have := T1.size; (try simp at this); omega
  go_wp2_with fail
  go_ret
  exact ⟨ret_int (by rw [HC.out]; try omega), (((Turns.refl _ w).alloc _).trans (T1.mono (fun k hk => by simp [hk]))), ⟨[], d0, [.int .i64 x.1], [.bool x.2.1.1.1, .slice z1a1 z1n1 z1c1, .slice z1a2 z1n2 z1c2, .bool x.2.2.1.1, .slice z1a4 z1n4 z1c4, .slice z1a5 z1n5 z1c5], rfl, rfl, ⟨rfl, rfl, o0⟩, (mk_eq O1.out (by first | rfl | simp only [mkPlacement, Int.natCast_add, Int.add_assoc]))⟩⟩
end Go.Proofs.Yteihkhniibncnaa
