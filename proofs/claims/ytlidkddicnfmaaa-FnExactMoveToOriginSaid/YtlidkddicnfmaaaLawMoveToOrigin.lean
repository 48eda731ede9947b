/- FnExactMoveToOrigin returns true, for every list of vectors. -/
import Derived.Test.YtlidkddicnfmaaaMto
namespace Go.Proofs.Ytlidkddicnfmaaa
open Go.RowKit

set_option maxHeartbeats 1600000 in
theorem law_MoveToOrigin {W : World} (v : Value) (l : List QV) (hv : tVecs.at W [v] l) :
    Calls Try.prog 4 #[v] W fun e w' => e = .returned (.bool true) ∧ More W w' := by
  have HV := Lib.hid hv; clear hv
  by_cases hn : l.length ≤ 1048576
  · have Hn := Lib.hid hn
    have Hr := Lib.hid (Nat.le_trans (movO_len l) hn)
    clear hn
    obtain ⟨n, en⟩ : ∃ n, n = l.length := ⟨_, rfl⟩
    obtain ⟨r, er⟩ : ∃ r, r = movO l := ⟨_, rfl⟩
    have ER := Lib.hid er
    have HrL : Hid (r.length ≤ 1048576) := by rw [er]; exact Hr
    clear en er
    go_enter Try.func4, Try.ntmps4
    go_wp2_with fail
    refine (laws_szVecS _ l _ _ HV.out (by decide) (by decide)).mono ?_
    rintro e w1 ⟨rfl, b1⟩
    rw [szI_pos (by have := Hn.out; omega)]
    have z1 : 0 ≤ (1048576 : Int) - l.length := by have := Hn.out; omega
    go_wp2_with fail
    refine (laws_toVecS _ l _ (Ty.at_more HV.out b1) Hn.out).mono ?_
    rintro e w2 ⟨c, rfl, b2, F2⟩
    go_wp2_with fail
    refine (spec_MoveToOrigin _ l _ (Ty.fresh_at F2) Hn.out).mono ?_
    rintro e w3 ⟨y, rfl, b3, F3⟩
    rw [← ER.out] at F3
    go_wp2_with fail
    have M3 := (b1.trans b2).trans b3
    refine (laws_toVecS _ l _ (Ty.at_more HV.out M3) Hn.out).mono ?_
    rintro e w4 ⟨x, rfl, b4, bx, X4, nx, lx⟩
    go_wp2_with fail
    refine (impl_MoveToOrigin _ l _ (Ty.rd_at (tVecs.own_rd X4)) Hn.out).mono ?_
    rintro e w5 ⟨g, rfl, b5, bg, G5, ng, lg⟩
    rw [← ER.out] at G5
    go_wp2_with fail
    have N5 := b4.trans b5
    refine (laws_eqVecS _ _ r _ (Ty.rd_at (tVecs.own_rd G5)) (Ty.at_more (Ty.fresh_at F3) N5) (by have := HrL.out; omega)).mono ?_
    rintro e w6 ⟨rfl, b6⟩
    go_wp2_with fail
    have M6 := ((M3.trans b4).trans b5).trans b6
    refine (laws_toVecS _ l _ (Ty.at_more HV.out M6) Hn.out).mono ?_
    rintro e w7 ⟨t, rfl, b7, F7⟩
    go_wp2_with fail
    refine (laws_eqVecS _ _ l _ (Ty.at_more (Ty.rd_at (tVecs.own_rd X4)) ((b5.trans b6).trans b7)) (Ty.fresh_at F7) (by have := Hn.out; omega)).mono ?_
    rintro e w8 ⟨rfl, b8⟩
    go_wp2_with fail
    have X8 := Ty.own_more X4 (((b5.trans b6).trans b7).trans b8)
    refine (laws_markVecS bx _ l _ _ X8 (by decide) (by decide) Hn.out).mono ?_
    rintro e w9 ⟨rfl, T9, -⟩
    have k9 : ¬ (1 + 2 * (l.length : Int) < 0) := by omega
    go_wp2_with fail
    have N9 := More.turn (((N5.trans b6).trans b7).trans b8) T9 lx
    have M9 := More.turn ((M6.trans b7).trans b8) T9 (fun k hk => Nat.le_trans M3.size (lx k hk))
    have G9 := Ty.own_turns (Ty.own_more G5 ((b6.trans b7).trans b8)) T9 (fun k hk hk' => by have := lg k hk; have := tVecs.own_lt X4 k hk'; omega)
    refine (laws_eqVecS _ _ r _ (Ty.rd_at (tVecs.own_rd G9)) (Ty.at_more (Ty.fresh_at F3) N9) (by have := HrL.out; omega)).mono ?_
    rintro e w10 ⟨rfl, b10⟩
    go_wp2_with fail
    refine (laws_markVecS bg _ r _ _ (Ty.own_more G9 b10) (by decide) (by decide) HrL.out).mono ?_
    rintro e w11 ⟨rfl, T11, G11⟩
    go_wp2_with fail
    refine (laws_heldVecS _ r.length _ _ (Ty.rd_at (tVecs.own_rd G11)) (by decide) (by decide) HrL.out).mono ?_
    rintro e w12 ⟨rfl, b12⟩
    have q12 : ¬ (1 + 2 * (r.length : Int) < 0) := by omega
    go_wp2_with fail
    have lg3 : ∀ k ∈ bg, w3.heap.size ≤ k := fun k hk => Nat.le_trans b4.size (lg k hk)
    have N12 := (More.turn (N9.trans b10) T11 lg3).trans b12
    have M12 := (More.turn (M9.trans b10) T11 (fun k hk => Nat.le_trans M3.size (lg3 k hk))).trans b12
    refine (laws_toVecS _ l _ (Ty.at_more HV.out M12) Hn.out).mono ?_
    rintro e w13 ⟨t', rfl, b13, F13⟩
    go_wp2_with fail
    refine (impl_MoveToOrigin _ l _ (Ty.fresh_at F13) Hn.out).mono ?_
    rintro e w14 ⟨h, rfl, b14, F14⟩
    rw [← ER.out] at F14
    go_wp2_with fail
    refine (laws_eqVecS _ _ r _ (Ty.fresh_at F14) (Ty.at_more (Ty.fresh_at F3) ((N12.trans b13).trans b14)) (by have := HrL.out; omega)).mono ?_
    rintro e w15 ⟨rfl, b15⟩
    go_wp2_with fail
    refine (laws_heldVecS _ r.length _ _ (Ty.at_more (Ty.rd_at (tVecs.own_rd G11)) (((b12.trans b13).trans b14).trans b15)) (by decide) (by decide) HrL.out).mono ?_
    rintro e w16 ⟨rfl, b16⟩
    go_wp2_with fail
    go_ret
    exact ⟨rfl, ((M12.trans b13).trans b14).trans (b15.trans b16)⟩
  · have hsz : szI l.length 1048576 = -1 := szI_neg (by omega)
    have Hs := Lib.hid hsz; clear hsz
    go_enter Try.func4, Try.ntmps4
    go_wp2_with fail
    refine (laws_szVecS _ l _ _ HV.out (by decide) (by decide)).mono ?_
    rintro e w1 ⟨rfl, b1⟩
    rw [Hs.out]
    go_wp2_with fail
    go_ret
    exact ⟨rfl, b1⟩
end Go.Proofs.Ytlidkddicnfmaaa
