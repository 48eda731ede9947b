/- ParseRat: the program's. -/
import Derived.Test.YtnbefpfijaimjaaGreatDoorSti
import Derived.Test.YtnbefpfijaimjaaGreatDoorClo
import Derived.Test.YtnbefpfijaimjaaGreatDoorBx
import Derived.Deep.DeepCutAuto
namespace Go.Proofs.YtnbefpfijaimjaaGreatDoor
open Go.RowKit
noncomputable def pRm (l : List UInt8) (a : Option Int) (t : Option Nat) : Option Fr := match a, t with
  | some m, some d => if ratOkB (encR (m, d)) && decide (fR (m, d) = l) then some (m, d) else none
  | _, _ => none
noncomputable def pR (l : List UInt8) : Option Fr := pRm l (pB (cutC 47 l).1) (if (cutC 47 l).2.2 then pN (cutC 47 l).2.1 else some 1)
theorem cutC_len (c : UInt8) : ∀ l : List UInt8, (cutC c l).1.length ≤ l.length ∧ (cutC c l).2.1.length ≤ l.length
  | [] => by simp [cutC]
  | b :: t => by
    have h := cutC_len c t
    unfold cutC
    split
    · simp
    · simp; omega
theorem pR_eq {l x1 x2 : List UInt8} {x3 : Bool} (hC : cutC 47 l = (x1, x2, x3)) : pR l = pRm l (pB x1) (if x3 then pN x2 else some 1) := by
  unfold pR
  rw [hC]
theorem pRm_a {l : List UInt8} {t : Option Nat} : pRm l none t = none := by cases t <;> rfl
theorem pRm_t {l : List UInt8} {a : Option Int} : pRm l a none = none := by cases a <;> rfl
theorem pRm_no {l : List UInt8} {m : Int} {d : Nat} (h : (ratOkB (encR (m, d)) && decide (fR (m, d) = l)) = false) : pRm l (some m) (some d) = none := by
  show (if (ratOkB (encR (m, d)) && decide (fR (m, d) = l)) = true then some (m, d) else none) = none
  rw [h]
  rfl
theorem pRm_yes {l : List UInt8} {m : Int} {d : Nat} (h : (ratOkB (encR (m, d)) && decide (fR (m, d) = l)) = true) : pRm l (some m) (some d) = some (m, d) := by
  show (if (ratOkB (encR (m, d)) && decide (fR (m, d) = l)) = true then some (m, d) else none) = _
  rw [h]
  rfl
theorem good_enc {f : Fr} (h : ratOkB (encR f) = true) : Good f := by
  obtain ⟨g, hg, he⟩ := ratOk_iff.1 h
  rw [encR_inj he]
  exact hg
theorem vd_enc {f : Fr} (h1 : (limbs f.1.natAbs).length ≤ 60) (h2 : (limbs f.2).length ≤ 60) : wRat (encR f) ≤ 1048576 := by
  unfold wRat wBigInt wIntS encR encZ
  show (limbs f.1.natAbs).length + (limbs f.2).length ≤ 1048576
  omega
theorem pB_len {l : List UInt8} {m : Int} (h : pB l = some m) : (limbs m.natAbs).length ≤ 60 := by
  unfold pB at h
  split at h
  · cases h
  · rename_i n hn
    split at h
    · cases h
    · rename_i hz
      have hs := pB_sign (l := l) (n := n) (by simpa using hz)
      cases h
      rw [hs.2]
      exact pN_len hn
theorem limbs_1' : limbs 1 = [1] := by rw [limbs_one (by decide) (by decide)]; rfl

theorem Box3.put2 {w : World} {X : Nat} {x y z v : Value} (h : Box3 w X x y z) : Box3 (w.setCell ⟨X, 2, none⟩ v) X x y v :=
  ⟨by rw [World.cell?_setCell_other _ _ _ _ (by simp)]; exact h.c0, by rw [World.cell?_setCell_other _ _ _ _ (by simp)]; exact h.c1, World.cell?_setCell_same' _ _ _ (by rw [h.c2]; rfl), fun j => by rw [World.frozen?_setCell]; exact h.fr j, by simpa [World.setCell] using h.lt⟩
theorem rat_none (B : Nat) (w : World) (hB : B ≤ w.heap.size) : tRat.fresh B w [.bool false, .slice none 0 0, .slice none 0 0] (encR (0, 0)) := rat_fA (bs := []) (w1 := w) (w2 := w) nil_fresh nil_fresh (Turns.refl _ _) (Turns.refl _ _) (by simp) hB
set_option maxRecDepth 8000 in
set_option maxHeartbeats 6400000 in
theorem impl_ParseRat (l : List UInt8) (w : World) (hl : l.length ≤ 1048576) (ht : PowTab w) :
    Calls Tryz.prog 24 #[.string (sB l)] w fun e w' => ∃ u v, e = .returned (.tuple #[.agg #[.bool (decide (((pR l).getD (0, 0)).1 < 0)), u, v], .bool (pR l).isSome]) ∧ More w w' ∧ tRat.fresh w.heap.size w' [.bool (decide (((pR l).getD (0, 0)).1 < 0)), u, v] (encR ((pR l).getD (0, 0))) := by
  have HT := Lib.hid ht; clear ht
  have N0 : ∀ w', More (w.alloc (.cells #[.bool false, .slice none 0 0, .slice none 0 0] 26)) w' → Box3 w' w.heap.size (.bool false) (.slice none 0 0) (.slice none 0 0) := fun w' h => Box3.new rfl h
  obtain ⟨x1, x2, x3, hC⟩ : ∃ x1 x2 x3, cutC 47 l = (x1, x2, x3) := ⟨_, _, _, rfl⟩
  have HC := Lib.hid hC
  have hx := cutC_len 47 l
  rw [hC] at hx
  have HX1 : Hid (x1.length ≤ 1048576) := Lib.hid (Nat.le_trans hx.1 hl)
  have HX2 : Hid (x2.length ≤ 1048576) := Lib.hid (Nat.le_trans hx.2 hl)
  clear hx hC
  obtain ⟨m, hm⟩ : ∃ m, m = (pB x1).getD 0 := ⟨_, rfl⟩
  obtain ⟨o1, ho1⟩ : ∃ o, o = (pB x1).isSome := ⟨_, rfl⟩
  obtain ⟨t, htt⟩ : ∃ t, t = (if x3 then pN x2 else some 1) := ⟨_, rfl⟩
  have HM := Lib.hid hm; have HO1 := Lib.hid ho1; have HTT := Lib.hid htt
  clear hm ho1 htt
  go_enter Tryz.func24, Tryz.ntmps24
  go_upto_if 25 with (first | (go_at_call 23; refine (str_Cut l 47 _ hl).mono ?_; rintro e9 w1 ⟨rfl, hb1⟩; rw [HC.out]) | (go_at_call 45; refine (impl_ParseBigInt x1 _ HX1.out).mono ?_; rintro e9 w2 ⟨v2, rfl, hb2, f2⟩; rw [← HM.out] at f2 ⊢; rw [← HO1.out]; obtain ⟨a2, n2, c2, rfl⟩ := sh1 (Ty.fresh_at f2); have F2 := Lib.hid f2; clear f2; have HB1 : Hid (More (w.alloc (.cells #[.bool false, .slice none 0 0, .slice none 0 0] 26)) w1) := Lib.hid hb1; have HB2 : Hid (More (w.alloc (.cells #[.bool false, .slice none 0 0, .slice none 0 0] 26)) w2) := Lib.hid mC))
  go_cut [8, 9, 10] (fun s8 s9 s10 wx => ∃ (X : Nat) (a3 : Option Addr) (n3 c3 : Nat), s8 = .bool o1 ∧ s9 = .pointer (some ⟨X, 0, none⟩) ∧ s10 = .bool t.isSome ∧ More w2 wx ∧ w2.heap.size ≤ X ∧ Box3 wx X (.bool (decide (m < 0))) (.slice a2 n2 c2) (.slice a3 n3 c3) ∧ Hid (tRat.fresh w1.heap.size wx [.bool (decide (m < 0)), .slice a2 n2 c2, .slice a3 n3 c3] (encR (m, t.getD 0))))
  case first =>
    cases x3 with
    | true =>
      have ht : t = pN x2 := by have h := HTT.out; simpa using h
      subst ht
      go_wp2_with (go_at_call 46; refine (impl_ParseNat x2 _ HX2.out).mono ?_; rintro e9 w3 ⟨v3, rfl, hb3, f3⟩; obtain ⟨a3, n3, c3, rfl⟩ := sh1 f3.at; have F3 := Lib.hid f3; clear f3; have RB3 : Box3 w3 (w2.heap.size + 2) (.bool (decide (m < 0))) (.slice a2 n2 c2) (.slice (some ⟨w2.heap.size + 1, 0, none⟩) 1 1) := Box3.new (by simp) hb3; have r0 := RB3.c0; have r1 := RB3.c1; have r2 := RB3.c2; have rf := RB3.fr)
      go_meet
      refine ⟨w2.heap.size + 2, a3, n3, c3, rfl, rfl, rfl, Turns.more ((Turns.via hb3 ((((Turns.refl [] w2).alloc _).alloc _).alloc _)).setCell (.inr (by show w2.heap.size ≤ w2.heap.size + 2; omega)) _), by omega, RB3.put2, Lib.hid ?_⟩
      have FD : tInts.fresh w2.heap.size (w3.setCell ⟨w2.heap.size + 2, 2, none⟩ (.slice a3 n3 c3)) [.slice a3 n3 c3] (limbs ((pN x2).getD 0)) := Ty.fresh_mono (Ty.fresh_turns (bs := [w2.heap.size + 2]) F3.out.fresh ((Turns.refl [w2.heap.size + 2] w3).setCell (.inl (by simp)) _) (by simp)) (by simp; try omega)
      exact rat_fA (bs := []) F2.out FD ((Turns.via hb3 ((((Turns.refl [] w2).alloc _).alloc _).alloc _)).setCell (.inr (by show w2.heap.size ≤ w2.heap.size + 2; omega)) _) (Turns.refl _ _) (by simp) hb2.size
    | false =>
      have ht : t = some 1 := by have h := HTT.out; simpa using h
      subst ht
      go_wp2_with fail
      go_meet
      refine ⟨w2.heap.size + 2, some ⟨w2.heap.size + 1, 0, none⟩, 1, 1, rfl, rfl, rfl, Turns.more ((((Turns.refl [] w2).alloc _).alloc _).alloc _), by omega, Box3.new (by simp) (More.refl _), Lib.hid ?_⟩
      have FD : tInts.fresh w2.heap.size (((w2.alloc (.cells #[.bool (decide (m < 0)), .slice a2 n2 c2] 24)).alloc (.cells #[.int .i64 1] 3))) [.slice (some ⟨w2.heap.size + 1, 0, none⟩) 1 1] (limbs 1) := by
                rw [limbs_1']
                have hsz : (w2.alloc (.cells #[.bool (decide (m < 0)), .slice a2 n2 c2] 24)).heap.size = w2.heap.size + 1 := by simp
                have FO := FlatOwn.lit1 (F := fInt) (B := w2.heap.size) (e := 3) (w := w2.alloc (.cells #[.bool (decide (m < 0)), .slice a2 n2 c2] 24)) (C := #[.int .i64 1]) (x := (1 : Int)) (by rw [hsz]; omega) rfl (In64.mk ⟨by decide, by decide⟩)
                rw [hsz] at FO
                exact FO.fresh
      exact rat_fA (bs := []) F2.out FD ((((Turns.refl [] w2).alloc _).alloc _).alloc _) ((Turns.refl [] _).alloc _) (by simp) hb2.size
  case rest =>
  obtain ⟨X, a3, n3, c3, rfl, rfl, rfl, hb4, hXl, hX, hF⟩ := hcut
  have hN := N0 wc (More.trans HB2.out hb4)
  have zn : ¬ (w.heap.size = X) := by have h1 := HB2.out.size; simp at h1; omega
  have g0 := hN.c0; have g1 := hN.c1; have g2 := hN.c2; have gf := hN.fr; have gl := hN.lt
  have q0 := hX.c0; have q1 := hX.c1; have q2 := hX.c2
  have HBC : Hid (More w wc) := Lib.hid (More.trans (show More w w2 from More.trans (Turns.more ((Turns.refl [] w).alloc _)) HB2.out) hb4)
  have HPE : Hid (pR l = pRm l (pB x1) t) := Lib.hid (by rw [HTT.out]; exact pR_eq HC.out)
  clear hb4
  have hbc := HBC.out
  cases ha : pB x1 with
  | none =>
    have e1 : o1 = false := by rw [HO1.out, ha]; rfl
    have HPR : Hid (pR l = none) := Lib.hid (by rw [HPE.out, ha]; exact pRm_a)
    subst e1
    go_wp2_with fail
    refine bodyPost_ret (v := .tuple #[.agg #[.bool false, .slice none 0 0, .slice none 0 0], .bool false]) ?_ rfl ?_
    rotate_left
    · refine ⟨.slice none 0 0, .slice none 0 0, by rw [HPR.out]; rfl, mC2, ?_⟩
      rw [HPR.out]
      exact rat_none _ _ (More.size (show More w _ from mC2))
    · simp [results, Tryz.results24, go_sem, *]
  | some m' =>
  have e1 : o1 = true := by rw [HO1.out, ha]; rfl
  have e2 : m = m' := by rw [HM.out, ha]; rfl
  subst e1; subst e2
  have HA := Lib.hid ha; clear ha
  cases htq : t with
  | none =>
    have HPR : Hid (pR l = none) := Lib.hid (by rw [HPE.out, htq]; exact pRm_t)
    subst htq
    go_wp2_with fail
    refine bodyPost_ret (v := .tuple #[.agg #[.bool false, .slice none 0 0, .slice none 0 0], .bool false]) ?_ rfl ?_
    rotate_left
    · refine ⟨.slice none 0 0, .slice none 0 0, by rw [HPR.out]; rfl, mC2, ?_⟩
      rw [HPR.out]
      exact rat_none _ _ (More.size (show More w _ from mC2))
    · simp [results, Tryz.results24, go_sem, *]
  | some d =>
  have HPE2 : Hid (pR l = pRm l (some m) (some d)) := Lib.hid (by rw [HPE.out, HA.out, htq])
  have HD60 : Hid ((limbs d).length ≤ 60) := Lib.hid (by
    have h := HTT.out
    rw [htq] at h
    cases x3 with
    | true => exact pN_len (show pN x2 = some d by simpa using h.symm)
    | false => have h2 : d = 1 := by simpa using h
               rw [h2, limbs_1']; decide)
  have HW : Hid (wRat (encR (m, d)) ≤ 1048576) := Lib.hid (vd_enc (pB_len HA.out) HD60.out)
  have hF2 : Hid (tRat.fresh w1.heap.size wc [.bool (decide (m < 0)), .slice a2 n2 c2, .slice a3 n3 c3] (encR (m, d))) := Lib.hid (by have h := hF.out; rw [htq] at h; exact h)
  subst htq
  rcases Bool.eq_false_or_eq_true (ratOkB (encR (m, d))) with hr | hr
  rotate_left
  · have HR := Lib.hid hr
    have HPR : Hid (pR l = none) := Lib.hid (by rw [HPE2.out]; exact pRm_no (by rw [hr]; rfl))
    clear hr
    go_wp2_with (go_at_call 47; refine (impl_RatOk _ _ _ (encR (m, d)) _ (Ty.at_more (Ty.fresh_at hF2.out) mC) HW.out).mono ?_; rintro e9 w5 ⟨rfl, hb5⟩; rw [HR.out]; obtain ⟨k0, k1, k2, kf, kl⟩ := hN.keep hb5)
    refine bodyPost_ret (v := .tuple #[.agg #[.bool false, .slice none 0 0, .slice none 0 0], .bool false]) ?_ rfl ?_
    rotate_left
    · refine ⟨.slice none 0 0, .slice none 0 0, by rw [HPR.out]; rfl, mC2, ?_⟩
      rw [HPR.out]
      exact rat_none _ _ (More.size (show More w _ from mC2))
    · simp [results, Tryz.results24, go_sem, *]
  have HR := Lib.hid hr
  have HG : Hid (Good (m, d)) := Lib.hid (good_enc hr)
  clear hr
  rcases Bool.eq_false_or_eq_true (decide (fR (m, d) = l)) with he | he
  rotate_left
  · have HPR : Hid (pR l = none) := Lib.hid (by rw [HPE2.out]; exact pRm_no (by rw [he, Bool.and_false]))
    have hq : ((sB (fR (m, d))).toList == (sB l).toList) = false := by rw [sB_toList, sB_toList]; simpa using he
    have hq2 : ((sB (fR (m, d))).toList != (sB l).toList) = true := by rw [bne, hq]; rfl
    clear he
    go_wp2_with (first | (go_at_call 47; refine (impl_RatOk _ _ _ (encR (m, d)) _ (Ty.at_more (Ty.fresh_at hF2.out) mC) HW.out).mono ?_; rintro e9 w5 ⟨rfl, hb5⟩; rw [HR.out]; obtain ⟨j0, j1, j2, jf, jl⟩ := hX.keep hb5) | (go_at_call 32; refine (impl_formatRat (m, d) _ _ _ HG.out (Ty.at_more (Ty.fresh_at hF2.out) mC) (HT.out.more (More.trans HBC.out mC))).mono ?_; rintro e9 w6 ⟨rfl, hb6⟩; obtain ⟨k0, k1, k2, kf, kl⟩ := hN.keep (More.trans hb5 hb6)))
    refine bodyPost_ret (v := .tuple #[.agg #[.bool false, .slice none 0 0, .slice none 0 0], .bool false]) ?_ rfl ?_
    rotate_left
    · refine ⟨.slice none 0 0, .slice none 0 0, by rw [HPR.out]; rfl, mC2, ?_⟩
      rw [HPR.out]
      exact rat_none _ _ (More.size (show More w _ from mC2))
    · simp [results, Tryz.results24, go_sem, *]
  · have HPR : Hid (pR l = some (m, d)) := Lib.hid (by rw [HPE2.out]; exact pRm_yes (by rw [HR.out, he]; rfl))
    have hq : ((sB (fR (m, d))).toList == (sB l).toList) = true := by rw [sB_toList, sB_toList]; simpa using he
    have hq2 : ((sB (fR (m, d))).toList != (sB l).toList) = false := by rw [bne, hq]; rfl
    clear he
    go_wp2_with (first | (go_at_call 47; refine (impl_RatOk _ _ _ (encR (m, d)) _ (Ty.at_more (Ty.fresh_at hF2.out) mC) HW.out).mono ?_; rintro e9 w5 ⟨rfl, hb5⟩; rw [HR.out]; obtain ⟨j0, j1, j2, jf, jl⟩ := hX.keep hb5) | (go_at_call 32; refine (impl_formatRat (m, d) _ _ _ HG.out (Ty.at_more (Ty.fresh_at hF2.out) mC) (HT.out.more (More.trans HBC.out mC))).mono ?_; rintro e9 w6 ⟨rfl, hb6⟩; obtain ⟨k0, k1, k2, kf, kl⟩ := hN.keep (More.trans hb5 hb6); obtain ⟨i0, i1, i2, iff', il⟩ := hX.keep (More.trans hb5 hb6)))
    refine bodyPost_ret (v := .tuple #[.agg #[.bool (decide (m < 0)), .slice a2 n2 c2, .slice a3 n3 c3], .bool true]) ?_ rfl ?_
    rotate_left
    · refine ⟨.slice a2 n2 c2, .slice a3 n3 c3, by rw [HPR.out]; rfl, mC2, ?_⟩
      rw [HPR.out]
      exact Ty.fresh_mono (Ty.fresh_turns (bs := [w.heap.size]) hF2.out tC (by have h1 := HB1.out.size; simp at h1 ⊢; omega)) (by have h1 := HB1.out.size; simp at h1; omega)
    · simp [results, Tryz.results24, go_sem, *]
end Go.Proofs.YtnbefpfijaimjaaGreatDoor
