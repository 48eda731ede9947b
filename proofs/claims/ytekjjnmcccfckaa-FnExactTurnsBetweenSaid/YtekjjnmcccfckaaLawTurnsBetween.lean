/- FnExactTurnsBetween returns true, for every input. -/
import Derived.Test.YtekjjnmcccfckaaBetwI
namespace Go.Proofs.Ytekjjnmcccfckaa
open Go.RowKit
set_option maxHeartbeats 3200000 in
theorem law_TurnsBetween {W : World} (a : Int) (hi0 : In64 a) (b : Int) (hi1 : In64 b) :
    Calls Try.prog 7 #[.int .i64 a, .int .i64 b] W fun e w' => e = .returned (.bool true) ∧ More W w' := by
  have HI0 := Lib.hid hi0; clear hi0
  have HI1 := Lib.hid hi1; clear hi1
  obtain ⟨r, er⟩ : ∃ r, r = tbF a b := ⟨_, rfl⟩
  have ER := Lib.hid er
  have HrL : Hid (r.length ≤ 1048576) := Lib.hid (by rw [er]; exact tbF_len a b)
  clear er
  go_enter Try.func7, Try.ntmps7
  go_wp2_with fail
  refine (spec_TurnsBetween a b _).mono ?_
  rintro e w1 ⟨y, rfl, b1, Fy⟩
  rw [← ER.out] at Fy
  go_wp2_with fail
  refine (impl_TurnsBetween a b _).mono ?_
  rintro e w2 ⟨g, rfl, b2, bg, G, ng, lg⟩
  rw [← ER.out] at G
  go_wp2_with fail
  refine (laws_eqIntS _ _ r _ (Ty.rd_at (tInts.own_rd G)) (Ty.at_more (Ty.fresh_at Fy) b2) (by have := HrL.out; omega)).mono ?_
  rintro e w3 ⟨rfl, b3⟩
  go_wp2_with fail
  have G3 := Ty.own_more G b3
  refine (laws_markIntS bg _ r _ _ G3 (by decide) (by decide) HrL.out).mono ?_
  rintro e w4 ⟨rfl, T4, G4⟩
  have P0_4 := More.turn ((b1.trans b2).trans b3) T4 (fun k hk => Nat.le_trans (More.size b1) (lg k hk))
  have P1_4 := More.turn (b2.trans b3) T4 lg
  go_wp2_with fail
  refine (laws_heldIntS _ r.length _ _ (Ty.rd_at (tInts.own_rd G4)) (by decide) (by decide) HrL.out).mono ?_
  rintro e w5 ⟨rfl, b5⟩
  have q5 : ¬ (1 + (r.length : Int) < 0) := by omega
  go_wp2_with fail
  refine (impl_TurnsBetween a b _).mono ?_
  rintro e w6 ⟨h, rfl, b6, Fh⟩
  rw [← ER.out] at Fh
  go_wp2_with fail
  refine (laws_eqIntS _ _ r _ (Ty.fresh_at Fh) (Ty.at_more (Ty.fresh_at Fy) ((P1_4.trans b5).trans b6)) (by have := HrL.out; omega)).mono ?_
  rintro e w7 ⟨rfl, b7⟩
  go_wp2_with fail
  refine (laws_heldIntS _ r.length _ _ (Ty.at_more (Ty.rd_at (tInts.own_rd G4)) ((b5.trans b6).trans b7)) (by decide) (by decide) HrL.out).mono ?_
  rintro e w8 ⟨rfl, b8⟩
  go_wp2_with fail
  go_ret
  exact ⟨rfl, ((((P0_4.trans b5).trans b6).trans b7).trans b8)⟩
end Go.Proofs.Ytekjjnmcccfckaa
