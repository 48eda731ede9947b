/- Lists of fractions: the program's copy; the reference's insertion and sort. -/
import Derived.Test.YtnbefpfijaimjaaRwo
import Derived.Test.YtnbefpfijaimjaaCpy
import Derived.Test.YtnbefpfijaimjaaCln
import Derived.Test.YtnbefpfijaimjaaSrp
import Derived.Deep.QuietTactic
namespace Go.Proofs.Ytnbefpfijaimjaa
open Go.RowKit
set_option maxRecDepth 4000 in
set_option maxHeartbeats 3200000 in
theorem impl_ownRats (v : Value) (l : List QR) (w : World) (hv : tRatS.at w [v] l) (hl : l.length ≤ 1048576 ∧ ∀ x ∈ l, wRat x ≤ 1048576) :
    Calls Try.prog 16 #[v] w fun e w' => ∃ v', e = .returned v' ∧ More w w' ∧ ListOwn tRat w.heap.size 38 w' v' l := by
  obtain ⟨i0, hi, hz0, hz1, hz2⟩ := info_parts infoRat9
  obtain ⟨ao, cap, rfl⟩ := sl_len hv
  have HV := Lib.hid hv; clear hv
  have HW := Lib.hid hl.2
  have hl := hl.1
  obtain ⟨n, hn⟩ : ∃ n, n = l.length := ⟨_, rfl⟩
  rw [← hn] at HV hl ⊢
  have HN := Lib.hid hn; clear hn
  go_enter Try.func16, Try.ntmps16
  go_wp2_with fail
  go_loopw [3, 9] (fun vo vi wr => ∃ k : Nat, vi = .int .i64 k ∧ k ≤ n ∧ More w wr ∧ Hid (ListOwn tRat w.heap.size 38 wr vo (l.take k))) (fun _ vi _ => n - (intOf vi).toNat)
  case atStart => exact ⟨0, rfl, Nat.zero_le _, mC, Lib.hid (ListOwn.lit (Nat.le_refl _))⟩
  case round =>
    obtain ⟨k, rfl, hk, hm, HO⟩ := hrel
    have HMW := Lib.hid hm
    by_cases hlt : k < n
    · obtain ⟨b, off, x, a1, n1, c1, a2, n2, c2, rfl, hblt, hx, hat, p0, p1, p2⟩ := el_Rat (Ty.at_more HV.out hm) (k := k) (by rw [← HN.out]; exact hlt)
      have hi0 : (0 : Int) ≤ (k : Int) := by omega
      have hi1 : (k : Int) < (n : Int) := by omega
      have HX := Lib.hid hx
      have HXL := Lib.hid (HW.out x (List.mem_of_getElem? hx))
      have HA := Lib.hid hat
      clear hx hat
      have HLen : Hid ((l.take k).length ≤ 2097152) := Lib.hid (by rw [List.length_take]; omega)
      go_wp2_with fail
      refine (impl_ownRat _ x _ (Ty.at_more HA.out mC2) HXL.out).mono ?_
      rintro e w2 ⟨u, v, rfl, hb2, f2⟩
      have HF := Lib.hid f2; clear f2
      go_wp2_with (at_builtin; go_loud (refine wpList_pushOwn tRat wr rfl _ _ 24 rfl w.heap.size 38 i0 (.agg #[.bool false, .slice none 0 0, .slice none 0 0]) 56 Try.underlying24 hi hz0 hz1 hz2 rfl (by decide) rfl HO.out mC2 rfl (by simp) (y := x) (Ty.fresh_mono (show tRat.fresh _ _ [_, _, _] x from Ty.fresh_more HF.out mC) (More.size (show More wr _ from mC2))) HLen (by decide) (Lib.hid hm.size) ?_))
      intro v4 w4 hl4 hm4
      have hw4 : More w w4 := hm4 w rfl (More.trans HMW.out mC2)
      go_wp2_with fail
      go_roundw
      case rel => exact ⟨k + 1, by go_num, by omega, hw4, Lib.hid (by rw [List.take_add_one, HX.out]; exact hl4)⟩
      case measure => simp [intOf]; omega
    · have hnl : ¬ (k : Int) < (n : Int) := by omega
      go_wp2_with fail
      go_ret
      obtain rfl : k = n := by omega
      exact ⟨_, rfl, HMW.out, by have h := HO.out; rw [HN.out, List.take_length] at h; exact h⟩
theorem fresh_rd {α : Type} {S : Ty α} {B : Nat} {w : World} {cs : List Value} {x : α} {g : Nat} (h : S.fresh B w cs x) (hg : g < B) : S.rd (fun k => k ≠ g) w cs x := by
  obtain ⟨bs, p1, p2, p3⟩ := h
  exact S.keep (S.own_rd p1) (fun b hb hl => ⟨by have := p3 b hb; omega, rfl, hl⟩)
theorem RowO.litN {α : Type} {S : Ty α} {B N : Nat} {e : TypeId} {w : World} (hB : B ≤ w.heap.size) (hN : w.heap.size = N) : RowO S B e (w.alloc (.cells #[] e)) N 0 0 [] := by
  subst hN
  exact RowO.lit hB
theorem rCmp_cases (x y : QR) : rCmp x y = -1 ∨ rCmp x y = 0 ∨ rCmp x y = 1 := by
  have := rCmp_range x y
  omega
theorem rLt_iff {x y : QR} : rLt x y = true ↔ rCmp x y = -1 := by
  have := rCmp_range x y
  unfold rLt
  rw [decide_eq_true_iff]
  omega
theorem sPut_same {l : List QR} {r x : QR} {k : Nat} (hk : k = sAt l r) (hx : l[k]? = some x) (h : rCmp x r = 0) : sPut l r = l := by
  subst hk
  unfold sPut
  rw [if_pos ⟨(List.getElem?_eq_some_iff.1 hx).1, by rw [hx, ← h]; rfl⟩]
theorem sPut_new {l : List QR} {r : QR} {k : Nat} (hk : k = sAt l r) (h : ∀ x, l[k]? = some x → rCmp x r = 1) : sPut l r = l.take k ++ r :: l.drop k := by
  subst hk
  unfold sPut
  rw [if_neg, List.append_assoc, List.singleton_append]
  rintro ⟨h1, h2⟩
  rw [List.getElem?_eq_getElem h1] at h2
  have := h _ (List.getElem?_eq_getElem h1)
  simp at h2
  rw [this] at h2
  cases h2
set_option maxRecDepth 8000 in
set_option maxHeartbeats 12800000 in
theorem spec_l13Put (b n cap : Nat) (l : List QR) (cs : List Value) (r : QR) (w : World) (hv : tRatS.at w [.slice (some ⟨b, 0, none⟩) n cap] l) (hl : l.length ≤ 1048576) (hw : ∀ x ∈ l, wRat x ≤ 1048576) (hr : tRat.at w cs r) (hrw : wRat r ≤ 1048576) :
    Calls Try.prog 13 #[.slice (some ⟨b, 0, none⟩) n cap, .agg cs.toArray] w fun e w' => ∃ b' n' cap', e = .returned (.slice (some ⟨b', 0, none⟩) n' cap') ∧ More w w' ∧ tRatS.at w' [.slice (some ⟨b', 0, none⟩) n' cap'] (sPut l r) := by
  obtain ⟨i0, hi, hz0, hz1, hz2⟩ := info_parts infoRat9
  obtain ⟨z1, z2, z3, z4, z5, z6, rfl⟩ := sh_Rat hr
  have hnl : n = l.length ∧ n ≤ cap := by
    obtain ⟨ao', cap', h0, k1, k2, k3, k4⟩ := slRd_at hv
    simp at h0
    obtain ⟨_, rfl, rfl⟩ := h0
    exact ⟨rfl, k1⟩
  obtain ⟨hn, hnc⟩ := hnl
  rw [← hn] at hl
  have HV := Lib.hid hv; have HRR := Lib.hid hr; have HRW := Lib.hid hrw; have HW := Lib.hid hw; have HN := Lib.hid hn
  clear hv hr hrw hw hn
  obtain ⟨p, ep⟩ : ∃ p, p = sAt l r := ⟨_, rfl⟩
  have hpn : p ≤ n := by rw [ep, HN.out]; exact sAt_le l r
  have EP := Lib.hid ep; clear ep
  show Calls Try.prog 13 #[.slice (some ⟨b, 0, none⟩) n cap, .agg #[.bool r.1.1, .slice z1 z2 z3, .slice z4 z5 z6]] w _
  have HX : More (w.alloc (.cells #[.bool r.1.1, .slice z1 z2 z3, .slice z4 z5 z6] 38)) (w.alloc (.cells #[.bool r.1.1, .slice z1 z2 z3, .slice z4 z5 z6] 38)) := More.refl _
  have HB : ∀ w', More (w.alloc (.cells #[.bool r.1.1, .slice z1 z2 z3, .slice z4 z5 z6] 38)) w' → w'.cell? ⟨w.heap.size, 0, none⟩ = some (.bool r.1.1) ∧ w'.cell? ⟨w.heap.size, 1, none⟩ = some (.slice z1 z2 z3) ∧ w'.cell? ⟨w.heap.size, 2, none⟩ = some (.slice z4 z5 z6) ∧ (∀ j, w'.frozen? ⟨w.heap.size, j, none⟩ = false) := fun w' h => ⟨box_new (by simp) h 0, box_new (by simp) h 1, box_new (by simp) h 2, fun j => box_free (by simp) h j⟩
  have HBX : Hid (w.heap.size + 1 ≤ ((w.alloc (.cells #[.bool r.1.1, .slice z1 z2 z3, .slice z4 z5 z6] 38))).heap.size) := Lib.hid (by simp)
  have HBY : Hid (((w.alloc (.cells #[.bool r.1.1, .slice z1 z2 z3, .slice z4 z5 z6] 38))).heap.size ≤ w.heap.size + 1) := Lib.hid (by simp)
  have HVB : Hid (tRatS.at ((w.alloc (.cells #[.bool r.1.1, .slice z1 z2 z3, .slice z4 z5 z6] 38))) [.slice (some ⟨b, 0, none⟩) n cap] l) := Lib.hid (Ty.at_more HV.out mC)
  have HRB : Hid (tRat.at ((w.alloc (.cells #[.bool r.1.1, .slice z1 z2 z3, .slice z4 z5 z6] 38))) [.bool r.1.1, .slice z1 z2 z3, .slice z4 z5 z6] r) := Lib.hid (Ty.at_more HRR.out mC)
  clear HV HRR
  go_enter Try.func13, Try.ntmps13
  go_wp2_with fail
  go_loopw [5] (fun i wr => ∃ k : Nat, k ≤ p ∧ i = .int .i64 k ∧ More (w.alloc (.cells #[.bool r.1.1, .slice z1 z2 z3, .slice z4 z5 z6] 38)) wr) (fun i _ => p - (intOf i).toNat)
  case atStart => exact ⟨0, Nat.zero_le _, rfl, More.refl _⟩
  case round =>
    obtain ⟨k, hk, rfl, hmr⟩ := hrel
    obtain ⟨wo, rfl⟩ : ∃ wo : World, wo = wr := ⟨_, rfl⟩
    have hwr : w.heap.size < wo.heap.size := by have := hmr.size; simp at this; omega
    have hi0 : (0 : Int) ≤ (k : Int) := by omega
    have X0 : ∀ w', More wo w' → w'.cell? ⟨w.heap.size, 0, none⟩ = some (.bool r.1.1) := fun w' h => (HB w' (More.trans hmr h)).1
    have X1 : ∀ w', More wo w' → w'.cell? ⟨w.heap.size, 1, none⟩ = some (.slice z1 z2 z3) := fun w' h => (HB w' (More.trans hmr h)).2.1
    have X2 : ∀ w', More wo w' → w'.cell? ⟨w.heap.size, 2, none⟩ = some (.slice z4 z5 z6) := fun w' h => (HB w' (More.trans hmr h)).2.2.1
    by_cases hkn : k < n
    · have hi1 : (k : Int) < (n : Int) := by omega
      obtain ⟨b', off', x, a1, n1, c1, a2, n2, c2, e9, hblt, hx, hat, p0, p1, p2⟩ := el_Rat (Ty.at_more HVB.out hmr) (k := k) (by rw [← HN.out]; exact hkn)
      cases e9
      simp only [Nat.zero_add] at p0 p1 p2
      have HX := Lib.hid hx; have HA := Lib.hid hat; have HXL := Lib.hid (HW.out x (List.mem_of_getElem? hx))
      clear hx hat
      have C0 : ∀ w', More wo w' → w'.cell? ⟨b, k * 3, none⟩ = some (.bool x.1.1) := fun w' h => ((bcell h).1 _ _ hblt).trans p0
      have C1 : ∀ w', More wo w' → w'.cell? ⟨b, k * 3 + 1, none⟩ = some (.slice a1 n1 c1) := fun w' h => ((bcell h).1 _ _ hblt).trans p1
      have C2 : ∀ w', More wo w' → w'.cell? ⟨b, k * 3 + 2, none⟩ = some (.slice a2 n2 c2) := fun w' h => ((bcell h).1 _ _ hblt).trans p2
      by_cases hlt : k < p
      · have HE : Hid (rCmp x r = -1) := Lib.hid (rLt_iff.1 (sAt_lt (by rw [← EP.out]; exact hlt) HX.out))
        go_wp2_with fail
        go_region_held3 (fun w' => More wo w') (first | exact More.refl _ | exact mC) (first | (go_at_call 27; (with_reducible refine (spec_RatCmpX x x.1.1 (.slice a1 n1 c1) (.slice a2 n2 c2) r r.1.1 (.slice z1 z2 z3) (.slice z4 z5 z6) _ (Ty.at_more HA.out mC) HXL.out (Ty.at_more HRB.out mC) HRW.out).mono ?_); rintro e w5 ⟨rfl, hb5⟩; rw [HE.out]))
        all_goals
          go_wp2_with fail
          go_roundw
          case rel => exact ⟨k + 1, by omega, by go_num, mC⟩
          case measure => simp [intOf]; omega
      · obtain rfl : k = p := by omega
        have TK : Hid (tRatS.at ((w.alloc (.cells #[.bool r.1.1, .slice z1 z2 z3, .slice z4 z5 z6] 38))) [.slice (some ⟨b, 0, none⟩) k cap] (l.take k)) := Lib.hid (sl_takeQ HVB.out (by omega))
        have DK : Hid (∀ off', (off' = 0 + k * 3 ∨ n = k) → tRatS.at ((w.alloc (.cells #[.bool r.1.1, .slice z1 z2 z3, .slice z4 z5 z6] 38))) [.slice (some ⟨b, off', none⟩) (n - k) (cap - k)] (l.drop k)) := Lib.hid (fun off' h9 => sl_dropP HVB.out (by omega) h9)
        have hge : rLt x r = false := sAt_ge (by rw [← EP.out]; exact HX.out)
        have hc : rCmp x r = 0 ∨ rCmp x r = 1 := by
          rcases rCmp_cases x r with h | h | h
          · rw [rLt_iff.2 h] at hge; cases hge
          · exact .inl h
          · exact .inr h
        have hck : ¬ cap = k := by omega
        rcases hc with hc | hc
        · have HE := Lib.hid hc; clear hc
          go_wp2_with fail
          go_region_held3 (fun w' => More wo w') (first | exact More.refl _ | exact mC) (first | (go_at_call 27; (with_reducible refine (spec_RatCmpX x x.1.1 (.slice a1 n1 c1) (.slice a2 n2 c2) r r.1.1 (.slice z1 z2 z3) (.slice z4 z5 z6) _ (Ty.at_more HA.out mC) HXL.out (Ty.at_more HRB.out mC) HRW.out).mono ?_); rintro e w5 ⟨rfl, hb5⟩; rw [HE.out]))
          all_goals
            go_wp2_with fail
            go_region_held3 (fun w' => More wo w') (first | exact More.refl _ | exact mC) (first | (go_at_call 27; (with_reducible refine (spec_RatCmpX x x.1.1 (.slice a1 n1 c1) (.slice a2 n2 c2) r r.1.1 (.slice z1 z2 z3) (.slice z4 z5 z6) _ (Ty.at_more HA.out mC) HXL.out (Ty.at_more HRB.out mC) HRW.out).mono ?_); rintro e w6 ⟨rfl, hb6⟩; rw [HE.out]))
            all_goals
              go_wp2_with fail
              go_ret
              exact ⟨b, n, cap, rfl, mC, by rw [sPut_same EP.out HX.out HE.out]; exact Ty.at_more HVB.out mC⟩
        · have HE := Lib.hid hc; clear hc
          have SP : Hid (sPut l r = l.take k ++ r :: l.drop k) := Lib.hid (sPut_new EP.out (fun y hy => by rw [HX.out] at hy; cases hy; exact HE.out))
          go_wp2_with fail
          go_region_held3 (fun w' => More wo w') (first | exact More.refl _ | exact mC) (first | (go_at_call 27; (with_reducible refine (spec_RatCmpX x x.1.1 (.slice a1 n1 c1) (.slice a2 n2 c2) r r.1.1 (.slice z1 z2 z3) (.slice z4 z5 z6) _ (Ty.at_more HA.out mC) HXL.out (Ty.at_more HRB.out mC) HRW.out).mono ?_); rintro e w5 ⟨rfl, hb5⟩; rw [HE.out]))
          all_goals
            go_wp2_with fail
            go_region_held3 (fun w' => More wo w') (first | exact More.refl _ | exact mC) (first | (go_at_call 27; (with_reducible refine (spec_RatCmpX x x.1.1 (.slice a1 n1 c1) (.slice a2 n2 c2) r r.1.1 (.slice z1 z2 z3) (.slice z4 z5 z6) _ (Ty.at_more HA.out mC) HXL.out (Ty.at_more HRB.out mC) HRW.out).mono ?_); rintro e w6 ⟨rfl, hb6⟩; rw [HE.out]))
            all_goals
              clear C0 C1 C2 X0 X1 X2 p0 p1 p2
              go_wp2_with (at_builtin; go_loud (refine wpList_appRow tRat _ rfl _ _ 24 rfl (w.heap.size + 1) 38 i0 (.agg #[.bool false, .slice none 0 0, .slice none 0 0]) 56 Try.underlying24 hi hz0 hz1 hz2 rfl (by decide) rfl (RowO.litN (Nat.le_trans HBX.out (More.size (show More (w.alloc (.cells #[.bool r.1.1, .slice z1 z2 z3, .slice z4 z5 z6] 38)) _ from mC))) rfl) (More.refl _) rfl (rd_old TK.out mC (More.size (show More (w.alloc (.cells #[.bool r.1.1, .slice z1 z2 z3, .slice z4 z5 z6] 38)) _ from mC))) (Lib.hid (by omega)) (by decide) ?_))
              intro g1 cap1 w1 r1 hm1
              have HR1 := Lib.hid r1; clear r1
              have hmw1 : More (w.alloc (.cells #[.bool r.1.1, .slice z1 z2 z3, .slice z4 z5 z6] 38)) w1 := hm1 _ HBY.out mC
              clear hm1
              obtain ⟨x10, x11, x12⟩ := HB w1 hmw1
              go_wp2_with fail
              refine (spec_l04CopyR _ r _ (Ty.at_more HRB.out mC) HRW.out).mono ?_
              rintro e w2 ⟨u, v, rfl, hb2, f2⟩
              have HF := Lib.hid f2; clear f2
              have HG1 := Lib.hid HR1.out.lt
              go_wp2_with (at_builtin; go_loud (refine wpList_appRow tRat w1 rfl _ _ 24 rfl (w.heap.size + 1) 38 i0 (.agg #[.bool false, .slice none 0 0, .slice none 0 0]) 56 Try.underlying24 hi hz0 hz1 hz2 rfl (by decide) rfl HR1.out mC rfl (one_rd (C := #[_, _, _]) (y := r) (fresh_rd HF.out HG1.out.2) rfl (by have := HG1.out.2; have := hb2.size; omega)) (Lib.hid (by omega)) (by decide) ?_))
              intro g2 cap2 w3 r2 hm2
              have HR2 := Lib.hid r2; clear r2
              have hmw3 : More (w.alloc (.cells #[.bool r.1.1, .slice z1 z2 z3, .slice z4 z5 z6] 38)) w3 := hm2 _ HBY.out mC
              clear hm2
              have HG2 := Lib.hid HR2.out.lt
              go_wp2_with (at_builtin; go_loud (refine wpList_appRow tRat w3 rfl _ _ 24 rfl (w.heap.size + 1) 38 i0 (.agg #[.bool false, .slice none 0 0, .slice none 0 0]) 56 Try.underlying24 hi hz0 hz1 hz2 rfl (by decide) rfl HR2.out mC rfl (rd_old (DK.out (k * 3) (.inl (by omega))) mC (Nat.le_trans HBY.out HG2.out.1)) (Lib.hid (by omega)) (by decide) ?_))
              intro g3 cap3 w4 r3 hm3
              have HR3 := Lib.hid r3; clear r3
              have hmw4 : More (w.alloc (.cells #[.bool r.1.1, .slice z1 z2 z3, .slice z4 z5 z6] 38)) w4 := hm3 _ HBY.out mC
              clear hm3
              go_wp2_with fail
              go_ret
              exact ⟨g3, _, cap3, rfl, mC, by have h := HR3.out.at; (try simp only [List.append_assoc, List.singleton_append] at h); rw [← SP.out] at h; exact h⟩
    · obtain rfl : k = n := by omega
      obtain rfl : k = p := by omega
      have TK : Hid (tRatS.at ((w.alloc (.cells #[.bool r.1.1, .slice z1 z2 z3, .slice z4 z5 z6] 38))) [.slice (some ⟨b, 0, none⟩) k cap] (l.take k)) := Lib.hid (sl_takeQ HVB.out (by omega))
      have DK : Hid (∀ off' c', c' = cap - k → tRatS.at ((w.alloc (.cells #[.bool r.1.1, .slice z1 z2 z3, .slice z4 z5 z6] 38))) [.slice (some ⟨b, off', none⟩) 0 c'] (l.drop k)) := Lib.hid (fun off' c' h9 => by have h := sl_dropP (off' := off') HVB.out (Nat.le_refl k) (.inr rfl); rw [Nat.sub_self, ← h9] at h; exact h)
      have SP : Hid (sPut l r = l.take k ++ r :: l.drop k) := Lib.hid (sPut_new EP.out (fun y hy => by rw [List.getElem?_eq_none (by rw [← HN.out]; omega)] at hy; cases hy))
      have hltm : ¬ (k : Int) < (k : Int) := by omega
      by_cases hck : cap = k
      · have hck0 : cap - k = 0 := by omega
        have TK : Hid (tRatS.at ((w.alloc (.cells #[.bool r.1.1, .slice z1 z2 z3, .slice z4 z5 z6] 38))) [.slice (some ⟨b, 0, none⟩) k k] (l.take k)) := Lib.hid (by have h := TK.out; rwa [hck] at h)
        go_wp2_with fail
        go_quiet (fail)
        generalize hq1 : World.drewN wo _ = wq1
        have hmq1 : More wo wq1 := by rw [← hq1]; exact mC
        clear hq1
        go_wp2_with fail
        go_quiet (fail)
        generalize hq2 : World.drewN wq1 _ = wq2
        have hmq2 : More wq1 wq2 := by rw [← hq2]; exact mC
        clear hq2
        clear X0 X1 X2
        go_wp2_with (at_builtin; go_loud (refine wpList_appRow tRat _ rfl _ _ 24 rfl (w.heap.size + 1) 38 i0 (.agg #[.bool false, .slice none 0 0, .slice none 0 0]) 56 Try.underlying24 hi hz0 hz1 hz2 rfl (by decide) rfl (RowO.litN (Nat.le_trans HBX.out (More.size (show More (w.alloc (.cells #[.bool r.1.1, .slice z1 z2 z3, .slice z4 z5 z6] 38)) _ from mC))) rfl) (More.refl _) rfl (rd_old TK.out mC (More.size (show More (w.alloc (.cells #[.bool r.1.1, .slice z1 z2 z3, .slice z4 z5 z6] 38)) _ from mC))) (Lib.hid (by omega)) (by decide) ?_))
        intro g1 cap1 w1 r1 hm1
        have HR1 := Lib.hid r1; clear r1
        have hmw1 : More (w.alloc (.cells #[.bool r.1.1, .slice z1 z2 z3, .slice z4 z5 z6] 38)) w1 := hm1 _ HBY.out mC
        clear hm1
        obtain ⟨x10, x11, x12⟩ := HB w1 hmw1
        go_wp2_with fail
        refine (spec_l04CopyR _ r _ (Ty.at_more HRB.out mC) HRW.out).mono ?_
        rintro e w2 ⟨u, v, rfl, hb2, f2⟩
        have HF := Lib.hid f2; clear f2
        have HG1 := Lib.hid HR1.out.lt
        go_wp2_with (at_builtin; go_loud (refine wpList_appRow tRat w1 rfl _ _ 24 rfl (w.heap.size + 1) 38 i0 (.agg #[.bool false, .slice none 0 0, .slice none 0 0]) 56 Try.underlying24 hi hz0 hz1 hz2 rfl (by decide) rfl HR1.out mC rfl (one_rd (C := #[_, _, _]) (y := r) (fresh_rd HF.out HG1.out.2) rfl (by have := HG1.out.2; have := hb2.size; omega)) (Lib.hid (by omega)) (by decide) ?_))
        intro g2 cap2 w3 r2 hm2
        have HR2 := Lib.hid r2; clear r2
        have hmw3 : More (w.alloc (.cells #[.bool r.1.1, .slice z1 z2 z3, .slice z4 z5 z6] 38)) w3 := hm2 _ HBY.out mC
        clear hm2
        have HG2 := Lib.hid HR2.out.lt
        go_wp2_with (at_builtin; go_loud (refine wpList_appRow tRat w3 rfl _ _ 24 rfl (w.heap.size + 1) 38 i0 (.agg #[.bool false, .slice none 0 0, .slice none 0 0]) 56 Try.underlying24 hi hz0 hz1 hz2 rfl (by decide) rfl HR2.out mC rfl (rd_old (DK.out _ _ hck0.symm) mC (Nat.le_trans HBY.out HG2.out.1)) (Lib.hid (by omega)) (by decide) ?_))
        intro g3 cap3 w4 r3 hm3
        have HR3 := Lib.hid r3; clear r3
        have hmw4 : More (w.alloc (.cells #[.bool r.1.1, .slice z1 z2 z3, .slice z4 z5 z6] 38)) w4 := hm3 _ HBY.out mC
        clear hm3
        go_wp2_with fail
        go_ret
        exact ⟨g3, _, cap3, rfl, mC, by have h := HR3.out.at; (try simp only [List.append_assoc, List.singleton_append] at h); rw [← SP.out] at h; exact h⟩
      · go_wp2_with fail
        go_quiet (fail)
        generalize hq1 : World.drewN wo _ = wq1
        have hmq1 : More wo wq1 := by rw [← hq1]; exact mC
        clear hq1
        go_wp2_with fail
        go_quiet (fail)
        generalize hq2 : World.drewN wq1 _ = wq2
        have hmq2 : More wq1 wq2 := by rw [← hq2]; exact mC
        clear hq2
        clear X0 X1 X2
        go_wp2_with (at_builtin; go_loud (refine wpList_appRow tRat _ rfl _ _ 24 rfl (w.heap.size + 1) 38 i0 (.agg #[.bool false, .slice none 0 0, .slice none 0 0]) 56 Try.underlying24 hi hz0 hz1 hz2 rfl (by decide) rfl (RowO.litN (Nat.le_trans HBX.out (More.size (show More (w.alloc (.cells #[.bool r.1.1, .slice z1 z2 z3, .slice z4 z5 z6] 38)) _ from mC))) rfl) (More.refl _) rfl (rd_old TK.out mC (More.size (show More (w.alloc (.cells #[.bool r.1.1, .slice z1 z2 z3, .slice z4 z5 z6] 38)) _ from mC))) (Lib.hid (by omega)) (by decide) ?_))
        intro g1 cap1 w1 r1 hm1
        have HR1 := Lib.hid r1; clear r1
        have hmw1 : More (w.alloc (.cells #[.bool r.1.1, .slice z1 z2 z3, .slice z4 z5 z6] 38)) w1 := hm1 _ HBY.out mC
        clear hm1
        obtain ⟨x10, x11, x12⟩ := HB w1 hmw1
        go_wp2_with fail
        refine (spec_l04CopyR _ r _ (Ty.at_more HRB.out mC) HRW.out).mono ?_
        rintro e w2 ⟨u, v, rfl, hb2, f2⟩
        have HF := Lib.hid f2; clear f2
        have HG1 := Lib.hid HR1.out.lt
        go_wp2_with (at_builtin; go_loud (refine wpList_appRow tRat w1 rfl _ _ 24 rfl (w.heap.size + 1) 38 i0 (.agg #[.bool false, .slice none 0 0, .slice none 0 0]) 56 Try.underlying24 hi hz0 hz1 hz2 rfl (by decide) rfl HR1.out mC rfl (one_rd (C := #[_, _, _]) (y := r) (fresh_rd HF.out HG1.out.2) rfl (by have := HG1.out.2; have := hb2.size; omega)) (Lib.hid (by omega)) (by decide) ?_))
        intro g2 cap2 w3 r2 hm2
        have HR2 := Lib.hid r2; clear r2
        have hmw3 : More (w.alloc (.cells #[.bool r.1.1, .slice z1 z2 z3, .slice z4 z5 z6] 38)) w3 := hm2 _ HBY.out mC
        clear hm2
        have HG2 := Lib.hid HR2.out.lt
        go_wp2_with (at_builtin; go_loud (refine wpList_appRow tRat w3 rfl _ _ 24 rfl (w.heap.size + 1) 38 i0 (.agg #[.bool false, .slice none 0 0, .slice none 0 0]) 56 Try.underlying24 hi hz0 hz1 hz2 rfl (by decide) rfl HR2.out mC rfl (rd_old (DK.out _ _ rfl) mC (Nat.le_trans HBY.out HG2.out.1)) (Lib.hid (by omega)) (by decide) ?_))
        intro g3 cap3 w4 r3 hm3
        have HR3 := Lib.hid r3; clear r3
        have hmw4 : More (w.alloc (.cells #[.bool r.1.1, .slice z1 z2 z3, .slice z4 z5 z6] 38)) w4 := hm3 _ HBY.out mC
        clear hm3
        go_wp2_with fail
        go_ret
        exact ⟨g3, _, cap3, rfl, mC, by have h := HR3.out.at; (try simp only [List.append_assoc, List.singleton_append] at h); rw [← SP.out] at h; exact h⟩
end Go.Proofs.Ytnbefpfijaimjaa
