/- FnExactEdgesOf returns true, for every input. -/
import Derived.Test.YtejhibpaknjhnaaEdg
import Derived.Test.YtejhibpaknjhnaaSzVecSS
import Derived.Test.YtejhibpaknjhnaaToVecSS
import Derived.Test.YtejhibpaknjhnaaEqVecSS
import Derived.Test.YtejhibpaknjhnaaEqEdgeS
import Derived.Test.YtejhibpaknjhnaaMkVecSS
import Derived.Test.YtejhibpaknjhnaaMkEdgeS
import Derived.Deep.RegionHeld3
namespace Go.Proofs.Ytejhibpaknjhnaa
open Go.RowKit
set_option maxHeartbeats 12800000 in
theorem law_EdgesOf {W : World} (v0 : Value) (l : List (List QV)) (hv0 : tVecSS.at W [v0] l) :
    Calls Try.prog 9 #[v0] W fun e w' => e = .returned (.bool true) ∧ More W w' := by
  have HV0 := Lib.hid hv0; clear hv0
  by_cases hn0 : ((wVecSS l : Nat) : Int) ≤ 1048576
  rotate_left
  · have Hbad := Lib.hid hn0; clear hn0
    go_enter Try.func9, Try.ntmps9
    go_wp2_with fail
    refine (laws_szVecSS _ l _ _ (Ty.at_more HV0.out (Turns.more (by repeat (first | (with_reducible exact Turns.refl _ _) | (with_reducible apply Turns.drew) | (with_reducible apply Turns.drewN) | (with_reducible apply Turns.alloc) | (with_reducible refine Turns.via (by assumption) ?_))))) (by decide) (by decide)).mono ?_
    rintro e w1 ⟨rfl, b1⟩
    rw [szI_neg (by have := Hbad.out; omega)]
    go_wp2_with fail
    go_ret
    exact ⟨rfl, (Turns.more (by repeat (first | (with_reducible exact Turns.refl _ _) | (with_reducible apply Turns.drew) | (with_reducible apply Turns.drewN) | (with_reducible apply Turns.alloc) | (with_reducible refine Turns.via (by assumption) ?_))))⟩
  have Hn0 := Lib.hid hn0
  have Hs0 : Hid (wVecSS l ≤ 1048576) := Lib.hid (by omega)
  clear hn0
  obtain ⟨r, er⟩ : ∃ r, r = edgF l := ⟨_, rfl⟩
  have ER := Lib.hid er
  have HrL : Hid (wEdgeS r ≤ 1048576) := Lib.hid (by rw [er]; have h1 := edgF_len l; have h2 := Hs0.out; unfold wEdgeS; omega)
  clear er
  have HrC : Hid (cEdgeS r ≤ 8388608) := Lib.hid (by have h := cEdgeS_le r; have h2 := HrL.out; omega)
  have HC0 : Hid (cVecSS l ≤ 8388608) := Lib.hid (by have h := cVecSS_le l; have h2 := Hs0.out; omega)
  go_enter Try.func9, Try.ntmps9
  go_wp2_with fail
  refine (laws_szVecSS _ l _ _ (Ty.at_more HV0.out (Turns.more (by repeat (first | (with_reducible exact Turns.refl _ _) | (with_reducible apply Turns.drew) | (with_reducible apply Turns.drewN) | (with_reducible apply Turns.alloc) | (with_reducible refine Turns.via (by assumption) ?_))))) (by decide) (by decide)).mono ?_
  rintro e w1 ⟨rfl, b1⟩
  rw [szI_pos (by have := Hn0.out; omega)]
  have z0 : 0 ≤ (1048576 : Int) - (wVecSS l : Nat) := by have := Hn0.out; omega
  go_wp2_with fail
  refine (laws_toVecSS _ l _ (Ty.at_more HV0.out (Turns.more (by repeat (first | (with_reducible exact Turns.refl _ _) | (with_reducible apply Turns.drew) | (with_reducible apply Turns.drewN) | (with_reducible apply Turns.alloc) | (with_reducible refine Turns.via (by assumption) ?_))))) Hs0.out).mono ?_
  rintro e w2 ⟨c0, rfl, b2, Fc0⟩
  go_wp2_with fail
  refine (spec_EdgesOf _ l _ (Ty.at_more (Ty.fresh_at Fc0) (Turns.more (by repeat (first | (with_reducible exact Turns.refl _ _) | (with_reducible apply Turns.drew) | (with_reducible apply Turns.drewN) | (with_reducible apply Turns.alloc) | (with_reducible refine Turns.via (by assumption) ?_))))) Hs0.out).mono ?_
  rintro e w3 ⟨y, rfl, b3, Fy⟩
  rw [← ER.out] at Fy
  go_wp2_with fail
  refine (laws_toVecSS _ l _ (Ty.at_more HV0.out (Turns.more (by repeat (first | (with_reducible exact Turns.refl _ _) | (with_reducible apply Turns.drew) | (with_reducible apply Turns.drewN) | (with_reducible apply Turns.alloc) | (with_reducible refine Turns.via (by assumption) ?_))))) Hs0.out).mono ?_
  rintro e w4 ⟨x0, rfl, b4, bx0, X0, nx0, lx0⟩
  go_wp2_with fail
  refine (impl_EdgesOf _ l _ (Ty.at_more (Ty.rd_at (tVecSS.own_rd X0)) (Turns.more (by repeat (first | (with_reducible exact Turns.refl _ _) | (with_reducible apply Turns.drew) | (with_reducible apply Turns.drewN) | (with_reducible apply Turns.alloc) | (with_reducible refine Turns.via (by assumption) ?_))))) Hs0.out).mono ?_
  rintro e w5 ⟨g, rfl, b5, bg, G, ng, lg⟩
  rw [← ER.out] at G
  have lg_x0 : ∀ k ∈ bg, w4.heap.size ≤ k := fun k hk => Nat.le_trans (More.size (show More w4 _ from (Turns.more (by repeat (first | (with_reducible exact Turns.refl _ _) | (with_reducible apply Turns.drew) | (with_reducible apply Turns.drewN) | (with_reducible apply Turns.alloc) | (with_reducible refine Turns.via (by assumption) ?_)))))) (lg k hk)
  go_wp2_with fail
  refine (laws_eqEdgeS _ _ r _ (Ty.at_more (Ty.rd_at (tEdgeS.own_rd G)) (Turns.more (by repeat (first | (with_reducible exact Turns.refl _ _) | (with_reducible apply Turns.drew) | (with_reducible apply Turns.drewN) | (with_reducible apply Turns.alloc) | (with_reducible refine Turns.via (by assumption) ?_))))) (Ty.at_more (Ty.fresh_at Fy) (Turns.more (by repeat (first | (with_reducible exact Turns.refl _ _) | (with_reducible apply Turns.drew) | (with_reducible apply Turns.drewN) | (with_reducible apply Turns.alloc) | (with_reducible refine Turns.via (by assumption) ?_))))) HrL.out).mono ?_
  rintro e w6 ⟨rfl, b6⟩
  go_wp2_with fail
  refine (laws_toVecSS _ l _ (Ty.at_more HV0.out (Turns.more (by repeat (first | (with_reducible exact Turns.refl _ _) | (with_reducible apply Turns.drew) | (with_reducible apply Turns.drewN) | (with_reducible apply Turns.alloc) | (with_reducible refine Turns.via (by assumption) ?_))))) Hs0.out).mono ?_
  rintro e w7 ⟨t0, rfl, b7, Ft0⟩
  go_wp2_with fail
  refine (laws_eqVecSS _ _ l _ (Ty.at_more (Ty.rd_at (tVecSS.own_rd X0)) (Turns.more (by repeat (first | (with_reducible exact Turns.refl _ _) | (with_reducible apply Turns.drew) | (with_reducible apply Turns.drewN) | (with_reducible apply Turns.alloc) | (with_reducible refine Turns.via (by assumption) ?_))))) (Ty.at_more (Ty.fresh_at Ft0) (Turns.more (by repeat (first | (with_reducible exact Turns.refl _ _) | (with_reducible apply Turns.drew) | (with_reducible apply Turns.drewN) | (with_reducible apply Turns.alloc) | (with_reducible refine Turns.via (by assumption) ?_))))) Hs0.out).mono ?_
  rintro e w8 ⟨rfl, b8⟩
  go_wp2_with fail
  refine (laws_markVecSS_ bx0 _ l _ _ (Ty.own_more X0 (Turns.more (by repeat (first | (with_reducible exact Turns.refl _ _) | (with_reducible apply Turns.drew) | (with_reducible apply Turns.drewN) | (with_reducible apply Turns.alloc) | (with_reducible refine Turns.via (by assumption) ?_))))) nx0 (by omega) (by have := HC0.out; omega) Hs0.out).mono ?_
  rintro e w9 ⟨rfl, T9, M9⟩
  have go9 := Ty.own_turns (Ty.own_more G (Turns.more (by repeat (first | (with_reducible exact Turns.refl _ _) | (with_reducible apply Turns.drew) | (with_reducible apply Turns.drewN) | (with_reducible apply Turns.alloc) | (with_reducible refine Turns.via (by assumption) ?_))))) T9 (fun k hk hk' => by have h1 := lg_x0 k hk; have h2 := tVecSS.own_lt X0 k hk'; omega)
  have b9 := More.turn (b4.trans (Turns.more (by repeat (first | (with_reducible exact Turns.refl _ _) | (with_reducible apply Turns.drew) | (with_reducible apply Turns.drewN) | (with_reducible apply Turns.alloc) | (with_reducible refine Turns.via (by assumption) ?_))))) T9 lx0
  have k9 : ¬ (1 + ((cVecSS l : Nat) : Int) < 0) := by omega
  go_wp2_with fail
  refine (laws_eqEdgeS _ _ r _ (Ty.at_more (Ty.rd_at (tEdgeS.own_rd go9)) (Turns.more (by repeat (first | (with_reducible exact Turns.refl _ _) | (with_reducible apply Turns.drew) | (with_reducible apply Turns.drewN) | (with_reducible apply Turns.alloc) | (with_reducible refine Turns.via (by assumption) ?_))))) (Ty.at_more (Ty.fresh_at Fy) (Turns.more (by repeat (first | (with_reducible exact Turns.refl _ _) | (with_reducible apply Turns.drew) | (with_reducible apply Turns.drewN) | (with_reducible apply Turns.alloc) | (with_reducible refine Turns.via (by assumption) ?_))))) HrL.out).mono ?_
  rintro e w10 ⟨rfl, b10⟩
  go_wp2_with fail
  refine (laws_markEdgeS_ bg _ r _ _ (Ty.own_more go9 (Turns.more (by repeat (first | (with_reducible exact Turns.refl _ _) | (with_reducible apply Turns.drew) | (with_reducible apply Turns.drewN) | (with_reducible apply Turns.alloc) | (with_reducible refine Turns.via (by assumption) ?_))))) ng (by omega) (by have := HrC.out; omega) HrL.out).mono ?_
  rintro e w11 ⟨rfl, T11, M11⟩
  have b11 := More.turn (b9.trans (Turns.more (by repeat (first | (with_reducible exact Turns.refl _ _) | (with_reducible apply Turns.drew) | (with_reducible apply Turns.drewN) | (with_reducible apply Turns.alloc) | (with_reducible refine Turns.via (by assumption) ?_))))) T11 (fun k hk => Nat.le_trans (More.size (b4.trans (Turns.more (by repeat (first | (with_reducible exact Turns.refl _ _) | (with_reducible apply Turns.drew) | (with_reducible apply Turns.drewN) | (with_reducible apply Turns.alloc) | (with_reducible refine Turns.via (by assumption) ?_)))))) (lg k hk))
  go_wp2_with fail
  refine (laws_heldEdgeS_ _ r _ _ (Ty.at_more (Ty.rd_at (tEdgeS.own_rd M11)) (Turns.more (by repeat (first | (with_reducible exact Turns.refl _ _) | (with_reducible apply Turns.drew) | (with_reducible apply Turns.drewN) | (with_reducible apply Turns.alloc) | (with_reducible refine Turns.via (by assumption) ?_))))) (by decide) (by have := HrC.out; omega) HrL.out).mono ?_
  rintro e w12 ⟨rfl, b12⟩
  have q12 : ¬ ((1 : Int) + ((cEdgeS r : Nat) : Int) < 0) := by omega
  go_wp2_with fail
  refine (laws_toVecSS _ l _ (Ty.at_more HV0.out (Turns.more (by repeat (first | (with_reducible exact Turns.refl _ _) | (with_reducible apply Turns.drew) | (with_reducible apply Turns.drewN) | (with_reducible apply Turns.alloc) | (with_reducible refine Turns.via (by assumption) ?_))))) Hs0.out).mono ?_
  rintro e w13 ⟨z0, rfl, b13, Fz0⟩
  go_wp2_with fail
  refine (impl_EdgesOf _ l _ (Ty.at_more (Ty.fresh_at Fz0) (Turns.more (by repeat (first | (with_reducible exact Turns.refl _ _) | (with_reducible apply Turns.drew) | (with_reducible apply Turns.drewN) | (with_reducible apply Turns.alloc) | (with_reducible refine Turns.via (by assumption) ?_))))) Hs0.out).mono ?_
  rintro e w14 ⟨h, rfl, b14, Fh⟩
  rw [← ER.out] at Fh
  go_wp2_with fail
  refine (laws_eqEdgeS _ _ r _ (Ty.at_more (Ty.fresh_at Fh) (Turns.more (by repeat (first | (with_reducible exact Turns.refl _ _) | (with_reducible apply Turns.drew) | (with_reducible apply Turns.drewN) | (with_reducible apply Turns.alloc) | (with_reducible refine Turns.via (by assumption) ?_))))) (Ty.at_more (Ty.fresh_at Fy) (Turns.more (by repeat (first | (with_reducible exact Turns.refl _ _) | (with_reducible apply Turns.drew) | (with_reducible apply Turns.drewN) | (with_reducible apply Turns.alloc) | (with_reducible refine Turns.via (by assumption) ?_))))) HrL.out).mono ?_
  rintro e w15 ⟨rfl, b15⟩
  go_wp2_with fail
  refine (laws_heldEdgeS_ _ r _ _ (Ty.at_more (Ty.rd_at (tEdgeS.own_rd M11)) (Turns.more (by repeat (first | (with_reducible exact Turns.refl _ _) | (with_reducible apply Turns.drew) | (with_reducible apply Turns.drewN) | (with_reducible apply Turns.alloc) | (with_reducible refine Turns.via (by assumption) ?_))))) (by decide) (by have := HrC.out; omega) HrL.out).mono ?_
  rintro e w16 ⟨rfl, b16⟩
  have q16 : ¬ ((1 : Int) + ((cEdgeS r : Nat) : Int) < 0) := by omega
  go_wp2_with fail
  go_ret
  exact ⟨rfl, (Turns.more (by repeat (first | (with_reducible exact Turns.refl _ _) | (with_reducible apply Turns.drew) | (with_reducible apply Turns.drewN) | (with_reducible apply Turns.alloc) | (with_reducible refine Turns.via (by assumption) ?_))))⟩
end Go.Proofs.Ytejhibpaknjhnaa
