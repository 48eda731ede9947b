/- SortRats: the program's and the reference's. -/
import Derived.Test.YtnbefpfijaimjaaSrz
import Derived.Test.YtnbefpfijaimjaaOwr
namespace Go.Proofs.Ytnbefpfijaimjaa
open Go.RowKit
theorem rats_nil (w : World) : tRatS.at w [.slice none 0 0] [] := ⟨none, 0, rfl, Nat.le_refl _, by decide, fun _ => rfl, fun h => by simp at h⟩
theorem sRats_nil : sRats [] = [] := rfl
theorem ListOwn.down {α : Type} {S : Ty α} {B B' : Nat} {e : TypeId} {w : World} {v : Value} {l : List α} (h : ListOwn S B' e w v l) (hB : B ≤ B') : ListOwn S B e w v l := by
  obtain ⟨xs, bss, h1, h2, h3, h4, h5⟩ := h
  refine ⟨xs, bss, ⟨h1.1, ?_⟩, h2, h3, fun b hb => ⟨Nat.le_trans hB (h4 b hb).1, (h4 b hb).2⟩, h5⟩
  rcases h1.2 with h | ⟨g, cap, cur, hv, hg, r⟩
  · exact .inl h
  · exact .inr ⟨g, cap, cur, hv, Nat.le_trans hB hg, r⟩
set_option maxHeartbeats 3200000 in
theorem impl_sortedRats (v : Value) (l : List QR) (w : World) (hv : tRatS.at w [v] l) (hl : l.length ≤ 1048576 ∧ ∀ x ∈ l, wRat x ≤ 1048576) (hok : l.all ratOkB = true) :
    Calls Try.prog 17 #[v] w fun e w' => ∃ v', e = .returned v' ∧ More w w' ∧ tRatS.at w' [v'] (sRats l) := by
  have HV := Lib.hid hv; have HL := Lib.hid hl; have HO := Lib.hid hok
  clear hv hl hok
  go_enter Try.func17, Try.ntmps17
  go_wp2_with fail
  refine (clone_rats v l _ (Ty.at_more HV.out mC) HL.out.1).mono ?_
  rintro e w1 ⟨v1, rfl, hb1, h1⟩
  rcases h1 with ⟨h0, rfl⟩ | ⟨g, cap, R, rfl, hR, hRl, hc, hx, hg⟩
  · have H0 := Lib.hid h0; clear h0
    go_wp2_with (first | (go_at_call 36; refine (sort_zero none 0 _).mono ?_; rintro e w2 ⟨rfl, hb2⟩) | (go_at_call 38; refine (compact_zero none 0 _).mono ?_; rintro e w3 ⟨rfl, hb3⟩))
    go_ret
    exact ⟨_, rfl, mC, by rw [H0.out]; exact rats_nil _⟩
  · have hlen : R.length = l.length := by rw [← hRl, List.length_map]
    have HR := Lib.hid hR; have HRL := Lib.hid hRl; have HG := Lib.hid hg; have HX := Lib.hid hx; have HC := Lib.hid hc
    have HLen := Lib.hid hlen
    clear hR hRl hg hx hc hlen
    by_cases hn : l.length = 0
    · have HN := Lib.hid hn
      rw [hn]
      clear hn
      go_wp2_with (first | (go_at_call 36; refine (sort_zero (some ⟨g, 0, none⟩) cap _).mono ?_; rintro e w2 ⟨rfl, hb2⟩) | (go_at_call 38; refine (compact_zero (some ⟨g, 0, none⟩) cap _).mono ?_; rintro e w3 ⟨rfl, hb3⟩))
      go_ret
      refine ⟨_, rfl, mC, ?_⟩
      have h9 := (HR.out.more (show More w1 w3 from mC)).at (m := 0) (cap := cap) (Nat.zero_le _) (Nat.zero_le _) HX.out
      rw [List.eq_nil_of_length_eq_zero HN.out]
      exact h9
    · have HN : Hid (0 < R.length) := Lib.hid (by rw [HLen.out]; omega)
      clear hn
      have HRok : Hid (∀ p ∈ R, ratOkB p.2 = true) := Lib.hid (fun p hp => List.all_eq_true.1 HO.out _ (by rw [← HRL.out]; exact List.mem_map.2 ⟨p, hp, rfl⟩))
      have HRw : Hid (∀ p ∈ R, wRat p.2 ≤ 1048576) := Lib.hid (fun p hp => HL.out.2 _ (by rw [← HRL.out]; exact List.mem_map.2 ⟨p, hp, rfl⟩))
      rw [← HLen.out]
      have HLR : Hid (R.length ≤ 1048576) := Lib.hid (by rw [HLen.out]; exact HL.out.1)
      go_wp2_with fail
      refine (sort_some g cap R _ (HR.out.more mC) HRok.out HN.out HLR.out).mono ?_
      rintro e w2 ⟨rfl, t2, R', hR', hp, hs⟩
      have hlr : R'.length = R.length := hp.length_eq
      have HR2 := Lib.hid hR'; have HP := Lib.hid hp; have HS := Lib.hid hs; have HLR2 := Lib.hid hlr
      have hb2 : More w w2 := More.turn (show More w _ from mC) t2 (by have := HG.out; simp; omega)
      clear hR' hp hs t2
      rw [← hlr]
      clear hlr
      go_wp2_with fail
      refine (compactFunc_rats g cap R' _ (HR2.out.more mC) (by have := HC.out; have := HLen.out; have := HLR2.out; omega) HX.out (by have := HLR.out; have := HLR2.out; omega) (fun p hp => HRw.out p (HP.out.mem_iff.1 hp))).mono ?_
      rintro e w3 ⟨m, rfl, t3, hmc, R3, hR3, hm3, htk⟩
      have hb3 : More w w3 := More.turn (show More w _ from mC) t3 (by have := HG.out; simp; omega)
      have HR3 := Lib.hid hR3; have HT := Lib.hid (And.intro hmc (And.intro hm3 htk))
      clear hR3 hmc hm3 htk t3
      go_wp2_with fail
      go_ret
      refine ⟨_, rfl, mC, ?_⟩
      have h9 := HR3.out.at (m := m) (cap := cap) HT.out.2.1 HT.out.1 HX.out
      rw [HT.out.2.2, sRats_of (l := l) HO.out (by rw [← HRL.out]; exact HP.out.map _) HS.out] at h9
      exact h9
set_option maxHeartbeats 1600000 in
theorem impl_SortRats (v : Value) (l : List QR) (w : World) (hv : tRatS.at w [v] l) (hl : l.length ≤ 1048576 ∧ ∀ x ∈ l, wRat x ≤ 1048576) :
    Calls Try.prog 7 #[v] w fun e w' => ∃ v', e = .returned v' ∧ More w w' ∧ ListOwn tRat w.heap.size 38 w' v' (sRats l) := by
  have HV := Lib.hid hv; have HL := Lib.hid hl
  clear hv hl
  rcases Bool.eq_false_or_eq_true (l.all ratOkB) with hd | hd
  · have HD := Lib.hid hd; clear hd
    go_enter Try.func7, Try.ntmps7
    go_wp2_with (first | (go_at_call 15; refine (impl_allRats v l _ (Ty.at_more HV.out mC) HL.out).mono ?_; rintro e w1 ⟨rfl, hb1⟩; rw [HD.out]) | (go_at_call 17; refine (impl_sortedRats v l _ (Ty.at_more HV.out mC) HL.out HD.out).mono ?_; rintro e w2 ⟨v2, rfl, hb2, f2⟩; have F2 := Lib.hid f2; clear f2) | (go_at_call 16; refine (impl_ownRats v2 (sRats l) _ (Ty.at_more F2.out mC) ⟨Nat.le_trans (sRats_len l) HL.out.1, fun x hx => HL.out.2 x (sRats_mem hx)⟩).mono ?_; rintro e w3 ⟨v3, rfl, hb3, f3⟩; have F3 := Lib.hid f3; clear f3))
    go_ret
    exact ⟨_, rfl, mC, ListOwn.down F3.out (More.size (show More w _ from mC))⟩
  · have HD := Lib.hid hd; clear hd
    go_enter Try.func7, Try.ntmps7
    go_wp2_with (go_at_call 15; refine (impl_allRats v l _ (Ty.at_more HV.out mC) HL.out).mono ?_; rintro e w1 ⟨rfl, hb1⟩; rw [HD.out])
    go_ret
    exact ⟨_, rfl, mC, by unfold sRats; rw [HD.out]; exact ListOwn.nil⟩
set_option maxRecDepth 4000 in
set_option maxHeartbeats 3200000 in
theorem spec_SortRats (v : Value) (l : List QR) (w : World) (hv : tRatS.at w [v] l) (hl : l.length ≤ 1048576 ∧ ∀ x ∈ l, wRat x ≤ 1048576) :
    Calls Try.prog 5 #[v] w fun e w' => ∃ v', e = .returned v' ∧ More w w' ∧ tRatS.at w' [v'] (sRats l) := by
  obtain ⟨ao, cap, rfl⟩ := sl_len hv
  have HV := Lib.hid hv; clear hv
  have HW := Lib.hid hl.2
  have hl := hl.1
  obtain ⟨n, hn⟩ : ∃ n, n = l.length := ⟨_, rfl⟩
  rw [← hn] at HV hl ⊢
  have HN := Lib.hid hn; clear hn
  go_enter Try.func5, Try.ntmps5
  go_wp2_with fail
  go_loopw [3, 9] (fun vo vi wr => ∃ k b n0 c0 : Nat, vo = .slice (some ⟨b, 0, none⟩) n0 c0 ∧ vi = .int .i64 k ∧ k ≤ n ∧ More w wr ∧ Hid (tRatS.at wr [.slice (some ⟨b, 0, none⟩) n0 c0] ((l.take k).foldl sPut [])) ∧ Hid ((l.take k).all ratOkB = true)) (fun _ vi _ => n - (intOf vi).toNat)
  case atStart => exact ⟨0, _, 0, 0, rfl, rfl, Nat.zero_le _, mC, Lib.hid ⟨_, 0, rfl, Nat.le_refl _, by decide, (fun e => by cases e), fun h => by simp at h⟩, Lib.hid rfl⟩
  case round =>
    obtain ⟨k, b0, n0, c0, rfl, rfl, hk, hm, HO, HA0⟩ := hrel
    have HMW := Lib.hid hm
    by_cases hlt : k < n
    · obtain ⟨b, off, x, a1, n1, c1, a2, n2, c2, rfl, hblt, hx, hat, p0, p1, p2⟩ := el_Rat (Ty.at_more HV.out hm) (k := k) (by rw [← HN.out]; exact hlt)
      have hi0 : (0 : Int) ≤ (k : Int) := by omega
      have hi1 : (k : Int) < (n : Int) := by omega
      have HX := Lib.hid hx
      have HXL := Lib.hid (HW.out x (List.mem_of_getElem? hx))
      have HA := Lib.hid hat
      clear hx hat
      have HLen : Hid (((l.take k).foldl sPut []).length ≤ 1048576) := Lib.hid (by have := fold_len (l.take k) []; rw [List.length_take] at this; simp only [List.length_nil] at this; omega)
      have HWt : Hid (∀ y ∈ (l.take k).foldl sPut [], wRat y ≤ 1048576) := Lib.hid (fun y hy => by
        rcases fold_mem hy with h | h
        · simp at h
        · exact HW.out y (List.mem_of_mem_take h))
      have TKN : Hid (l.take (k + 1) = l.take k ++ [x]) := Lib.hid (by rw [List.take_add_one, HX.out]; rfl)
      rcases Bool.eq_false_or_eq_true (ratOkB x) with hd | hd
      · have HD := Lib.hid hd; clear hd
        go_wp2_with fail
        refine (spec_RatOk _ _ _ x _ (Ty.at_more HA.out mC2) HXL.out).mono ?_
        rintro e w2 ⟨rfl, hb2⟩
        rw [HD.out]
        have q0 : w2.cell? ⟨wr.heap.size, 0, none⟩ = some (.bool x.1.1) := ((bcell hb2).1 _ _ (by simp)).trans (by simp)
        have q1 : w2.cell? ⟨wr.heap.size, 1, none⟩ = some (.slice a1 n1 c1) := ((bcell hb2).1 _ _ (by simp)).trans (by simp)
        have q2 : w2.cell? ⟨wr.heap.size, 2, none⟩ = some (.slice a2 n2 c2) := ((bcell hb2).1 _ _ (by simp)).trans (by simp)
        go_wp2_with fail
        refine (spec_l13Put b0 n0 c0 _ _ x _ (Ty.at_more HO.out mC2) HLen.out HWt.out (Ty.at_more HA.out mC2) HXL.out).mono ?_
        rintro e w3 ⟨b3, n3, c3, rfl, hb3, f3⟩
        have HF := Lib.hid f3; clear f3
        go_wp2_with fail
        go_roundw
        case rel => exact ⟨k + 1, b3, n3, c3, rfl, by go_num, by omega, More.trans HMW.out mC2, Lib.hid (by rw [TKN.out, List.foldl_append]; exact HF.out), Lib.hid (by rw [TKN.out, List.all_append, HA0.out]; simp [HD.out])⟩
        case measure => simp [intOf]; omega
      · have HD := Lib.hid hd; clear hd
        go_wp2_with fail
        refine (spec_RatOk _ _ _ x _ (Ty.at_more HA.out mC2) HXL.out).mono ?_
        rintro e w2 ⟨rfl, hb2⟩
        rw [HD.out]
        go_wp2_with fail
        go_ret
        refine ⟨_, rfl, More.trans HMW.out mC2, ?_⟩
        unfold sRats
        rw [if_neg]
        · exact rats_nil _
        · intro h
          have := List.all_eq_true.1 h x (List.mem_of_getElem? HX.out)
          rw [HD.out] at this
          cases this
    · have hnl : ¬ (k : Int) < (n : Int) := by omega
      go_wp2_with fail
      go_ret
      obtain rfl : k = n := by omega
      refine ⟨_, rfl, HMW.out, ?_⟩
      have h := HO.out
      have h2 := HA0.out
      rw [HN.out, List.take_length] at h h2
      unfold sRats
      rw [if_pos h2]
      exact h
end Go.Proofs.Ytnbefpfijaimjaa
