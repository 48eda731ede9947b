/- ParseRat: the reference's. -/
import Derived.Test.YtnbefpfijaimjaaGreatDoorGStk
namespace Go.Proofs.YtnbefpfijaimjaaGreatDoor
open Go.RowKit
theorem el_Str {w : World} {ao : Option Addr} {n cap : Nat} {l : List (List UInt8)} (h : (tSlice tStr).at w [.slice ao n cap] l) {k : Nat} {x : List UInt8} (hx : l[k]? = some x) : ∃ b off, ao = some ⟨b, off, none⟩ ∧ b < w.heap.size ∧ w.cell? ⟨b, off + k, none⟩ = some (.string (sB x)) := by
  obtain ⟨b, off, c, rfl, hb, hc, hv⟩ := sl_el h hx
  have hc : c = [.string (sB x)] := hc
  subst hc
  have h0 := hv 0 _ rfl
  refine ⟨b, off, rfl, hb, ?_⟩
  have e : off + k * tStr.size + 0 = off + k := by show off + k * 1 + 0 = _; omega
  rw [e] at h0
  exact h0
set_option maxRecDepth 8000 in
set_option maxHeartbeats 3200000 in
theorem spec_FormatRat_bad (x : QR) (b : Bool) (u v : Value) (w : World) (hg : ratOkB x = false) (hv : tRat.at w [.bool b, u, v] x) (hw : wRat x ≤ 1048576) :
    Calls Tryz.prog 43 #[.agg #[.bool b, u, v]] w fun e w' => e = .returned (.string ⟨#[]⟩) ∧ More w w' := by
  obtain ⟨_, h1, h2⟩ := rat_split hv
  obtain ⟨a, n, c, rfl⟩ := sh1 h1
  obtain ⟨d, m, e, rfl⟩ := sh1 h2
  have HV := Lib.hid hv; have HG := Lib.hid hg; have HW := Lib.hid hw
  clear hv h1 h2 hg hw
  go_enter Tryz.func43, Tryz.ntmps43
  go_wp2_with (go_at_call 80; refine (spec_RatOk _ _ _ x _ (Ty.at_more HV.out mC) HW.out).mono ?_; rintro e9 w1 ⟨rfl, hb1⟩; rw [HG.out])
  go_ret
  exact ⟨rfl, mC⟩
theorem fR_ne (f : Fr) : fR f ≠ [] := by
  have h1 : ∀ l, fN l ≠ [] := by
    intro l h
    unfold fN at h
    split at h
    · cases h
    · have h2 := (List.append_eq_nil_iff.1 h).1
      have h3 : ∀ n, Lib.decDigits n ≠ [] := by
        intro n h4
        by_cases hn : n < 10
        · rw [dec_small hn] at h4; cases h4
        · rw [dec_big hn] at h4; simp at h4
      exact h3 _ h2
  have h2 : ∀ x, fBig x ≠ [] := by
    intro x h
    unfold fBig at h
    split at h
    · cases h
    · exact h1 _ h
  intro h
  unfold fR at h
  split at h
  · exact h2 _ h
  · exact h2 _ (List.append_eq_nil_iff.1 h).1
set_option maxRecDepth 8000 in
set_option maxHeartbeats 6400000 in
theorem spec_ParseRat (l : List UInt8) (w : World) (hl : l.length ≤ 1048576) :
    Calls Tryz.prog 22 #[.string (sB l)] w fun e w' => ∃ u v, e = .returned (.tuple #[.agg #[.bool (decide (((pR l).getD (0, 0)).1 < 0)), u, v], .bool (pR l).isSome]) ∧ More w w' ∧ tRat.fresh w.heap.size w' [.bool (decide (((pR l).getD (0, 0)).1 < 0)), u, v] (encR ((pR l).getD (0, 0))) := by
  have N0 : ∀ w', More (w.alloc (.cells #[.bool false, .slice none 0 0, .slice none 0 0] 26)) w' → Box3 w' w.heap.size (.bool false) (.slice none 0 0) (.slice none 0 0) := fun w' h => Box3.new rfl h
  obtain ⟨x0, r, hsp, hcase⟩ := splitC_cons 47 l
  have HSP := Lib.hid hsp
  have hxl : x0.length ≤ l.length := by
    rcases hcase with ⟨q, hq, _⟩ | ⟨_, hq⟩
    · rw [hq]; simp
    · rw [hq]; exact Nat.le_refl _
  have HX1 : Hid (x0.length ≤ 1048576) := Lib.hid (Nat.le_trans hxl hl)
  have HX2 : Hid (∀ y, r[0]? = some y → y.length ≤ 1048576) := Lib.hid (fun y hy => by
    rcases hcase with ⟨q, hq, hr⟩ | ⟨hr, _⟩
    · obtain ⟨y0, r0, h0, h9⟩ := splitC_cons 47 q
      rw [hr, h0] at hy
      simp at hy
      subst hy
      have h7 : y0.length ≤ q.length := by
        rcases h9 with ⟨q2, hq2, _⟩ | ⟨_, hq2⟩
        · rw [hq2]; simp
        · rw [hq2]; exact Nat.le_refl _
      have h8 : q.length ≤ l.length := by rw [hq]; simp; omega
      omega
    · rw [hr] at hy; simp at hy)
  have HRL : Hid (r.length ≤ 1048576) := Lib.hid (by have h := splitC_len 47 l; rw [hsp] at h; simp at h; omega)
  clear hsp hcase hxl
  obtain ⟨m, hm⟩ : ∃ m, m = (pB x0).getD 0 := ⟨_, rfl⟩
  obtain ⟨o1, ho1⟩ : ∃ o, o = (pB x0).isSome := ⟨_, rfl⟩
  have HM := Lib.hid hm; have HO1 := Lib.hid ho1
  have HPE : Hid (pR l = pRm l (pB x0) (denT r)) := Lib.hid (pR_split HSP.out).symm
  clear hm ho1
  go_enter Tryz.func22, Tryz.ntmps22
  go_upto_if 22 with (first | (go_at_call 21; refine (spec_SplitAny 47 l _ hl).mono ?_; rintro e9 w1 ⟨vw, rfl, hb1, fw⟩; rw [HSP.out] at fw; obtain ⟨aw, cw, rfl⟩ := fw.len; obtain ⟨bw, ow, rfl, hbw, cw0⟩ := el_Str fw.at (k := 0) rfl; simp only [Nat.add_zero] at cw0; have FW := Lib.hid fw; clear fw) | (go_at_call 41; refine (spec_ParseBigInt x0 _ HX1.out).mono ?_; rintro e9 w2 ⟨v2, rfl, hb2, f2⟩; rw [← HM.out] at f2 ⊢; rw [← HO1.out]; obtain ⟨a2, n2, c2, rfl⟩ := sh1 (Ty.fresh_at f2); have F2 := Lib.hid f2; clear f2; have HB1 : Hid (More (w.alloc (.cells #[.bool false, .slice none 0 0, .slice none 0 0] 26)) w1) := Lib.hid hb1; have HB2 : Hid (More (w.alloc (.cells #[.bool false, .slice none 0 0, .slice none 0 0] 26)) w2) := Lib.hid mC; have HB12 := Lib.hid hb2))
  obtain ⟨t, htt⟩ : ∃ t, t = denT r := ⟨_, rfl⟩
  have HTT := Lib.hid htt; clear htt
  rw [← HTT.out] at HPE
  go_cut [7, 8] (fun s7 s8 wx => ∃ (a3 : Option Addr) (n3 c3 : Nat), s7 = .slice a3 n3 c3 ∧ s8 = .bool t.isSome ∧ More (w2.alloc (.cells #[.bool (decide (m < 0)), .slice a2 n2 c2] 24)) wx ∧ Hid (tInts.fresh w2.heap.size wx [.slice a3 n3 c3] (limbs (t.getD 0))))
  case first =>
    cases r with
    | nil =>
      have ht : t = some 1 := HTT.out
      subst ht
      go_wp2_with fail
      go_meet
      refine ⟨some ⟨w2.heap.size + 1, 0, none⟩, 1, 1, rfl, rfl, Turns.more ((Turns.refl [] _).alloc _), Lib.hid ?_⟩
      have hsz : ((w2.alloc (.cells #[.bool (decide (m < 0)), .slice a2 n2 c2] 24))).heap.size = w2.heap.size + 1 := by simp
      have FO := FlatOwn.lit1 (F := fInt) (B := w2.heap.size) (e := 3) (w := (w2.alloc (.cells #[.bool (decide (m < 0)), .slice a2 n2 c2] 24))) (C := #[.int .i64 1]) (x := (1 : Int)) (by rw [hsz]; omega) rfl (In64.mk ⟨by decide, by decide⟩)
      rw [hsz] at FO
      show tInts.fresh _ _ _ (limbs 1)
      rw [limbs_1']
      exact FO.fresh
    | cons y r' =>
      have ht : t = pN y := HTT.out
      subst ht
      obtain ⟨b', o', e9, hb', cy0⟩ := el_Str FW.out.at (k := 1) (x := y) rfl
      cases e9
      have cy1 : (((w2.alloc (.cells #[.bool (decide (m < 0)), .slice a2 n2 c2] 24)).alloc (.cells #[.int .i64 1] 3))).cell? ⟨bw, ow + 1, none⟩ = some (.string (sB y)) := ((bcell (show More w1 ((w2.alloc (.cells #[.bool (decide (m < 0)), .slice a2 n2 c2] 24)).alloc (.cells #[.int .i64 1] 3)) from More.trans HB12.out (Turns.more (((Turns.refl [] w2).alloc _).alloc _)))).1 _ _ hb').trans cy0
      have hk1 : (1 : Int) < ((r'.length : Int) + 1 + 1) := by omega
      go_wp2_with (go_at_call 42; refine (spec_ParseNat y _ (HX2.out y rfl)).mono ?_; rintro e9 w3 ⟨v3, rfl, hb3, f3⟩; obtain ⟨a3, n3, c3, rfl⟩ := sh1 f3.at; have F3 := Lib.hid f3; clear f3)
      go_meet
      exact ⟨a3, n3, c3, rfl, rfl, More.trans (Turns.more ((Turns.refl [] _).alloc _)) hb3, Lib.hid (Ty.fresh_mono F3.out.fresh (by simp; try omega))⟩
  case rest =>
  obtain ⟨a3, n3, c3, rfl, rfl, hb4, hF⟩ := hcut
  have HB4 := Lib.hid (More.trans (show More w2 (w2.alloc (.cells #[.bool (decide (m < 0)), .slice a2 n2 c2] 24)) from Turns.more ((Turns.refl [] _).alloc _)) hb4)
  have hN := N0 wc (More.trans HB2.out HB4.out)
  have hX : Box2 wc w2.heap.size (.bool (decide (m < 0))) (.slice a2 n2 c2) := Box2.new rfl hb4
  have g0 := hN.c0; have g1 := hN.c1; have g2 := hN.c2; have gf := hN.fr; have gl := hN.lt
  have q0 := hX.c0; have q1 := hX.c1
  have hbc : More w wc := More.trans (More.trans (Turns.more ((Turns.refl [] w).alloc _)) HB2.out) HB4.out
  have BR : ∀ w', More (wc.alloc (.cells #[.bool (decide (m < 0)), .slice a2 n2 c2, .slice a3 n3 c3] 26)) w' → Box3 w' wc.heap.size (.bool (decide (m < 0))) (.slice a2 n2 c2) (.slice a3 n3 c3) := fun w' h => Box3.new rfl h
  clear hb4
  cases ha : pB x0 with
  | none =>
    have e1 : o1 = false := by rw [HO1.out, ha]; rfl
    have HPR : Hid (pR l = none) := Lib.hid (by rw [HPE.out, ha]; exact pRm_a)
    subst e1
    go_wp2_with fail
    refine bodyPost_ret (v := .tuple #[.agg #[.bool false, .slice none 0 0, .slice none 0 0], .bool false]) ?_ rfl ?_
    rotate_left
    · refine ⟨.slice none 0 0, .slice none 0 0, by rw [HPR.out]; rfl, mC2, ?_⟩
      rw [HPR.out]
      exact rat_none _ _ (More.size (show More w _ from mC2))
    · simp [results, Tryz.results22, go_sem, *]
  | some m' =>
  have e1 : o1 = true := by rw [HO1.out, ha]; rfl
  have e2 : m = m' := by rw [HM.out, ha]; rfl
  subst e1; subst e2
  have HA := Lib.hid ha; clear ha
  cases htq : t with
  | none =>
    have HPR : Hid (pR l = none) := Lib.hid (by rw [HPE.out, htq]; exact pRm_t)
    subst htq
    go_wp2_with fail
    refine bodyPost_ret (v := .tuple #[.agg #[.bool false, .slice none 0 0, .slice none 0 0], .bool false]) ?_ rfl ?_
    rotate_left
    · refine ⟨.slice none 0 0, .slice none 0 0, by rw [HPR.out]; rfl, mC2, ?_⟩
      rw [HPR.out]
      exact rat_none _ _ (More.size (show More w _ from mC2))
    · simp [results, Tryz.results22, go_sem, *]
  | some d =>
  have HPE2 : Hid (pR l = pRm l (some m) (some d)) := Lib.hid (by rw [HPE.out, HA.out, htq])
  have HD60 : Hid ((limbs d).length ≤ 60) := Lib.hid (by
    have h := HTT.out
    rw [htq] at h
    cases r with
    | nil => have h2 : some d = some 1 := h
             cases h2
             rw [limbs_1']; decide
    | cons y r' => exact pN_len (show pN y = some d from h.symm))
  have HW : Hid (wRat (encR (m, d)) ≤ 1048576) := Lib.hid (vd_enc (pB_len HA.out) HD60.out)
  have hF2 : Hid (tRat.fresh w1.heap.size wc [.bool (decide (m < 0)), .slice a2 n2 c2, .slice a3 n3 c3] (encR (m, d))) := Lib.hid (by
    have h := hF.out
    rw [htq] at h
    exact rat_fA (bs := []) F2.out h (HB4.out.turns []) (Turns.refl _ _) (by simp) HB12.out.size)
  subst htq
  rcases Bool.eq_false_or_eq_true (ratOkB (encR (m, d))) with hr | hr
  rotate_left
  · have HR := Lib.hid hr
    have HPR : Hid (pR l = none) := Lib.hid (by rw [HPE2.out]; exact pRm_no (by rw [hr]; rfl))
    have he0 : (⟨#[]⟩ : ByteArray).toList.isEmpty = true := by rw [show (⟨#[]⟩ : ByteArray) = sB [] from rfl, sB_toList]; rfl
    clear hr
    go_wp2_with (go_at_call 43; refine (spec_FormatRat_bad (encR (m, d)) _ _ _ _ HR.out (Ty.at_more (Ty.fresh_at hF2.out) mC) HW.out).mono ?_; rintro e9 w5 ⟨rfl, hb5⟩; obtain ⟨k0, k1, k2, kf, kl⟩ := hN.keep (show More wc w5 from mC))
    refine bodyPost_ret (v := .tuple #[.agg #[.bool false, .slice none 0 0, .slice none 0 0], .bool false]) ?_ rfl ?_
    rotate_left
    · refine ⟨.slice none 0 0, .slice none 0 0, by rw [HPR.out]; rfl, mC2, ?_⟩
      rw [HPR.out]
      exact rat_none _ _ (More.size (show More w _ from mC2))
    · simp [results, Tryz.results22, go_sem, *]
  have HR := Lib.hid hr
  have HG : Hid (Good (m, d)) := Lib.hid (good_enc hr)
  have he1 : (sB (fR (m, d))).toList.isEmpty = false := by
    rw [sB_toList]
    have := fR_ne (m, d)
    cases hq : fR (m, d) with
    | nil => exact absurd hq this
    | cons a b => rfl
  clear hr
  rcases Bool.eq_false_or_eq_true (decide (fR (m, d) = l)) with he | he
  rotate_left
  · have HPR : Hid (pR l = none) := Lib.hid (by rw [HPE2.out]; exact pRm_no (by rw [he, Bool.and_false]))
    have hq : ((sB (fR (m, d))).toList == (sB l).toList) = false := by rw [sB_toList, sB_toList]; simpa using he
    have hq2 : ((sB (fR (m, d))).toList != (sB l).toList) = true := by rw [bne, hq]; rfl
    clear he
    go_wp2_with (first | (go_at_call 43; have hnew : Hid (∀ w5 : World, w5 = w5) := Lib.hid (fun _ => rfl); refine (spec_FormatRat (m, d) _ _ _ HG.out (Ty.at_more (Ty.fresh_at hF2.out) mC)).mono ?_; rintro e9 w5 ⟨rfl, hb5⟩; obtain ⟨k0, k1, k2, kf, kl⟩ := hN.keep (show More wc w5 from mC); obtain ⟨i0, i1, i2, iff', il⟩ := BR w5 mC))
    refine bodyPost_ret (v := .tuple #[.agg #[.bool false, .slice none 0 0, .slice none 0 0], .bool false]) ?_ rfl ?_
    rotate_left
    · refine ⟨.slice none 0 0, .slice none 0 0, by rw [HPR.out]; rfl, mC2, ?_⟩
      rw [HPR.out]
      exact rat_none _ _ (More.size (show More w _ from mC2))
    · simp [results, Tryz.results22, go_sem, *]
  · have HPR : Hid (pR l = some (m, d)) := Lib.hid (by rw [HPE2.out]; exact pRm_yes (by rw [HR.out, he]; rfl))
    have hq : ((sB (fR (m, d))).toList == (sB l).toList) = true := by rw [sB_toList, sB_toList]; simpa using he
    have hq2 : ((sB (fR (m, d))).toList != (sB l).toList) = false := by rw [bne, hq]; rfl
    clear he
    go_wp2_with (first | (go_at_call 43; have hnew : Hid (∀ w5 : World, w5 = w5) := Lib.hid (fun _ => rfl); refine (spec_FormatRat (m, d) _ _ _ HG.out (Ty.at_more (Ty.fresh_at hF2.out) mC)).mono ?_; rintro e9 w5 ⟨rfl, hb5⟩; obtain ⟨k0, k1, k2, kf, kl⟩ := hN.keep (show More wc w5 from mC); obtain ⟨i0, i1, i2, iff', il⟩ := BR w5 mC))
    refine bodyPost_ret (v := .tuple #[.agg #[.bool (decide (m < 0)), .slice a2 n2 c2, .slice a3 n3 c3], .bool true]) ?_ rfl ?_
    rotate_left
    · refine ⟨.slice a2 n2 c2, .slice a3 n3 c3, by rw [HPR.out]; rfl, mC2, ?_⟩
      rw [HPR.out]
      exact Ty.fresh_mono (Ty.fresh_turns (bs := [w.heap.size]) hF2.out tC (by have h1 := HB1.out.size; simp at h1 ⊢; omega)) (by have h1 := HB1.out.size; simp at h1; omega)
    · simp [results, Tryz.results22, go_sem, *]
end Go.Proofs.YtnbefpfijaimjaaGreatDoor
