/- Several texts laid together; each has its own word at its head. -/
import Derived.Test.YtnbefpfijaimjaaGreatDoorGStf
import Derived.Test.YtnbefpfijaimjaaGreatDoorGBig
import Derived.Deep.DeepCutAuto
import Derived.Test.YtnbefpfijaimjaaGreatDoorGStn
/- ParseRat: the program's. -/
namespace Go.Proofs.YtnbefpfijaimjaaGreatDoor
open Go.RowKit
noncomputable def pRm (l : List UInt8) (a : Option Int) (t : Option Nat) : Option Fr := match a, t with
  | some m, some d => if ratOkB (encR (m, d)) && decide (fR (m, d) = l) then some (m, d) else none
  | _, _ => none
noncomputable def pR (l : List UInt8) : Option Fr := pRm l (pB (cutC 47 l).1) (if (cutC 47 l).2.2 then pN (cutC 47 l).2.1 else some 1)
theorem cutC_len (c : UInt8) : ∀ l : List UInt8, (cutC c l).1.length ≤ l.length ∧ (cutC c l).2.1.length ≤ l.length
  | [] => by simp [cutC]
  | b :: t => by
    have h := cutC_len c t
    unfold cutC
    split
    · simp
    · simp; omega
theorem pR_eq {l x1 x2 : List UInt8} {x3 : Bool} (hC : cutC 47 l = (x1, x2, x3)) : pR l = pRm l (pB x1) (if x3 then pN x2 else some 1) := by
  unfold pR
  rw [hC]
theorem pRm_a {l : List UInt8} {t : Option Nat} : pRm l none t = none := by cases t <;> rfl
theorem pRm_t {l : List UInt8} {a : Option Int} : pRm l a none = none := by cases a <;> rfl
theorem pRm_no {l : List UInt8} {m : Int} {d : Nat} (h : (ratOkB (encR (m, d)) && decide (fR (m, d) = l)) = false) : pRm l (some m) (some d) = none := by
  show (if (ratOkB (encR (m, d)) && decide (fR (m, d) = l)) = true then some (m, d) else none) = none
  rw [h]
  rfl
theorem pRm_yes {l : List UInt8} {m : Int} {d : Nat} (h : (ratOkB (encR (m, d)) && decide (fR (m, d) = l)) = true) : pRm l (some m) (some d) = some (m, d) := by
  show (if (ratOkB (encR (m, d)) && decide (fR (m, d) = l)) = true then some (m, d) else none) = _
  rw [h]
  rfl
theorem good_enc {f : Fr} (h : ratOkB (encR f) = true) : Good f := by
  obtain ⟨g, hg, he⟩ := ratOk_iff.1 h
  rw [encR_inj he]
  exact hg
theorem vd_enc {f : Fr} (h1 : (limbs f.1.natAbs).length ≤ 60) (h2 : (limbs f.2).length ≤ 60) : wRat (encR f) ≤ 1048576 := by
  unfold wRat wBigInt wIntS encR encZ
  show (limbs f.1.natAbs).length + (limbs f.2).length ≤ 1048576
  omega
theorem pB_len {l : List UInt8} {m : Int} (h : pB l = some m) : (limbs m.natAbs).length ≤ 60 := by
  unfold pB at h
  split at h
  · cases h
  · rename_i n hn
    split at h
    · cases h
    · rename_i hz
      have hs := pB_sign (l := l) (n := n) (by simpa using hz)
      cases h
      rw [hs.2]
      exact pN_len hn
theorem limbs_1' : limbs 1 = [1] := by rw [limbs_one (by decide) (by decide)]; rfl

theorem Box3.put2 {w : World} {X : Nat} {x y z v : Value} (h : Box3 w X x y z) : Box3 (w.setCell ⟨X, 2, none⟩ v) X x y v :=
  ⟨by rw [World.cell?_setCell_other _ _ _ _ (by simp)]; exact h.c0, by rw [World.cell?_setCell_other _ _ _ _ (by simp)]; exact h.c1, World.cell?_setCell_same' _ _ _ (by rw [h.c2]; rfl), fun j => by rw [World.frozen?_setCell]; exact h.fr j, by simpa [World.setCell] using h.lt⟩
theorem rat_none (B : Nat) (w : World) (hB : B ≤ w.heap.size) : tRat.fresh B w [.bool false, .slice none 0 0, .slice none 0 0] (encR (0, 0)) := rat_fA (bs := []) (w1 := w) (w2 := w) nil_fresh nil_fresh (Turns.refl _ _) (Turns.refl _ _) (by simp) hB
set_option maxRecDepth 8000 in
set_option maxHeartbeats 6400000 in
theorem impl_ParseRat (l : List UInt8) (w : World) (hl : l.length ≤ 1048576) (ht : PowTab w) :
    Calls Tryz.prog 24 #[.string (sB l)] w fun e w' => ∃ u v, e = .returned (.tuple #[.agg #[.bool (decide (((pR l).getD (0, 0)).1 < 0)), u, v], .bool (pR l).isSome]) ∧ More w w' ∧ tRat.fresh w.heap.size w' [.bool (decide (((pR l).getD (0, 0)).1 < 0)), u, v] (encR ((pR l).getD (0, 0))) := by
  have HT := Lib.hid ht; clear ht
  have N0 : ∀ w', More (w.alloc (.cells #[.bool false, .slice none 0 0, .slice none 0 0] 26)) w' → Box3 w' w.heap.size (.bool false) (.slice none 0 0) (.slice none 0 0) := fun w' h => Box3.new rfl h
  obtain ⟨x1, x2, x3, hC⟩ : ∃ x1 x2 x3, cutC 47 l = (x1, x2, x3) := ⟨_, _, _, rfl⟩
  have HC := Lib.hid hC
  have hx := cutC_len 47 l
  rw [hC] at hx
  have HX1 : Hid (x1.length ≤ 1048576) := Lib.hid (Nat.le_trans hx.1 hl)
  have HX2 : Hid (x2.length ≤ 1048576) := Lib.hid (Nat.le_trans hx.2 hl)
  clear hx hC
  obtain ⟨m, hm⟩ : ∃ m, m = (pB x1).getD 0 := ⟨_, rfl⟩
  obtain ⟨o1, ho1⟩ : ∃ o, o = (pB x1).isSome := ⟨_, rfl⟩
  obtain ⟨t, htt⟩ : ∃ t, t = (if x3 then pN x2 else some 1) := ⟨_, rfl⟩
  have HM := Lib.hid hm; have HO1 := Lib.hid ho1; have HTT := Lib.hid htt
  clear hm ho1 htt
  go_enter Tryz.func24, Tryz.ntmps24
  go_upto_if 25 with (first | (go_at_call 23; refine (str_Cut l 47 _ hl).mono ?_; rintro e9 w1 ⟨rfl, hb1⟩; rw [HC.out]) | (go_at_call 45; refine (impl_ParseBigInt x1 _ HX1.out).mono ?_; rintro e9 w2 ⟨v2, rfl, hb2, f2⟩; rw [← HM.out] at f2 ⊢; rw [← HO1.out]; obtain ⟨a2, n2, c2, rfl⟩ := sh1 (Ty.fresh_at f2); have F2 := Lib.hid f2; clear f2; have HB1 : Hid (More (w.alloc (.cells #[.bool false, .slice none 0 0, .slice none 0 0] 26)) w1) := Lib.hid hb1; have HB2 : Hid (More (w.alloc (.cells #[.bool false, .slice none 0 0, .slice none 0 0] 26)) w2) := Lib.hid mC))
  go_cut [8, 9, 10] (fun s8 s9 s10 wx => ∃ (X : Nat) (a3 : Option Addr) (n3 c3 : Nat), s8 = .bool o1 ∧ s9 = .pointer (some ⟨X, 0, none⟩) ∧ s10 = .bool t.isSome ∧ More w2 wx ∧ w2.heap.size ≤ X ∧ Box3 wx X (.bool (decide (m < 0))) (.slice a2 n2 c2) (.slice a3 n3 c3) ∧ Hid (tRat.fresh w1.heap.size wx [.bool (decide (m < 0)), .slice a2 n2 c2, .slice a3 n3 c3] (encR (m, t.getD 0))))
  case first =>
    cases x3 with
    | true =>
      have ht : t = pN x2 := by have h := HTT.out; simpa using h
      subst ht
      go_wp2_with (go_at_call 46; refine (impl_ParseNat x2 _ HX2.out).mono ?_; rintro e9 w3 ⟨v3, rfl, hb3, f3⟩; obtain ⟨a3, n3, c3, rfl⟩ := sh1 f3.at; have F3 := Lib.hid f3; clear f3; have RB3 : Box3 w3 (w2.heap.size + 2) (.bool (decide (m < 0))) (.slice a2 n2 c2) (.slice (some ⟨w2.heap.size + 1, 0, none⟩) 1 1) := Box3.new (by simp) hb3; have r0 := RB3.c0; have r1 := RB3.c1; have r2 := RB3.c2; have rf := RB3.fr)
      go_meet
      refine ⟨w2.heap.size + 2, a3, n3, c3, rfl, rfl, rfl, Turns.more ((Turns.via hb3 ((((Turns.refl [] w2).alloc _).alloc _).alloc _)).setCell (.inr (by show w2.heap.size ≤ w2.heap.size + 2; omega)) _), by omega, RB3.put2, Lib.hid ?_⟩
      have FD : tInts.fresh w2.heap.size (w3.setCell ⟨w2.heap.size + 2, 2, none⟩ (.slice a3 n3 c3)) [.slice a3 n3 c3] (limbs ((pN x2).getD 0)) := Ty.fresh_mono (Ty.fresh_turns (bs := [w2.heap.size + 2]) F3.out.fresh ((Turns.refl [w2.heap.size + 2] w3).setCell (.inl (by simp)) _) (by simp)) (by simp; try omega)
      exact rat_fA (bs := []) F2.out FD ((Turns.via hb3 ((((Turns.refl [] w2).alloc _).alloc _).alloc _)).setCell (.inr (by show w2.heap.size ≤ w2.heap.size + 2; omega)) _) (Turns.refl _ _) (by simp) hb2.size
    | false =>
      have ht : t = some 1 := by have h := HTT.out; simpa using h
      subst ht
      go_wp2_with fail
      go_meet
      refine ⟨w2.heap.size + 2, some ⟨w2.heap.size + 1, 0, none⟩, 1, 1, rfl, rfl, rfl, Turns.more ((((Turns.refl [] w2).alloc _).alloc _).alloc _), by omega, Box3.new (by simp) (More.refl _), Lib.hid ?_⟩
      have FD : tInts.fresh w2.heap.size (((w2.alloc (.cells #[.bool (decide (m < 0)), .slice a2 n2 c2] 24)).alloc (.cells #[.int .i64 1] 3))) [.slice (some ⟨w2.heap.size + 1, 0, none⟩) 1 1] (limbs 1) := by
                rw [limbs_1']
                have hsz : (w2.alloc (.cells #[.bool (decide (m < 0)), .slice a2 n2 c2] 24)).heap.size = w2.heap.size + 1 := by simp
                have FO := FlatOwn.lit1 (F := fInt) (B := w2.heap.size) (e := 3) (w := w2.alloc (.cells #[.bool (decide (m < 0)), .slice a2 n2 c2] 24)) (C := #[.int .i64 1]) (x := (1 : Int)) (by rw [hsz]; omega) rfl (In64.mk ⟨by decide, by decide⟩)
                rw [hsz] at FO
                exact FO.fresh
      exact rat_fA (bs := []) F2.out FD ((((Turns.refl [] w2).alloc _).alloc _).alloc _) ((Turns.refl [] _).alloc _) (by simp) hb2.size
  case rest =>
  obtain ⟨X, a3, n3, c3, rfl, rfl, rfl, hb4, hXl, hX, hF⟩ := hcut
  have hN := N0 wc (More.trans HB2.out hb4)
  have zn : ¬ (w.heap.size = X) := by have h1 := HB2.out.size; simp at h1; omega
  have g0 := hN.c0; have g1 := hN.c1; have g2 := hN.c2; have gf := hN.fr; have gl := hN.lt
  have q0 := hX.c0; have q1 := hX.c1; have q2 := hX.c2
  have HBC : Hid (More w wc) := Lib.hid (More.trans (show More w w2 from More.trans (Turns.more ((Turns.refl [] w).alloc _)) HB2.out) hb4)
  have HPE : Hid (pR l = pRm l (pB x1) t) := Lib.hid (by rw [HTT.out]; exact pR_eq HC.out)
  clear hb4
  have hbc := HBC.out
  cases ha : pB x1 with
  | none =>
    have e1 : o1 = false := by rw [HO1.out, ha]; rfl
    have HPR : Hid (pR l = none) := Lib.hid (by rw [HPE.out, ha]; exact pRm_a)
    subst e1
    go_wp2_with fail
    refine bodyPost_ret (v := .tuple #[.agg #[.bool false, .slice none 0 0, .slice none 0 0], .bool false]) ?_ rfl ?_
    rotate_left
    · refine ⟨.slice none 0 0, .slice none 0 0, by rw [HPR.out]; rfl, mC2, ?_⟩
      rw [HPR.out]
      exact rat_none _ _ (More.size (show More w _ from mC2))
    · simp [results, Tryz.results24, go_sem, *]
  | some m' =>
  have e1 : o1 = true := by rw [HO1.out, ha]; rfl
  have e2 : m = m' := by rw [HM.out, ha]; rfl
  subst e1; subst e2
  have HA := Lib.hid ha; clear ha
  cases htq : t with
  | none =>
    have HPR : Hid (pR l = none) := Lib.hid (by rw [HPE.out, htq]; exact pRm_t)
    subst htq
    go_wp2_with fail
    refine bodyPost_ret (v := .tuple #[.agg #[.bool false, .slice none 0 0, .slice none 0 0], .bool false]) ?_ rfl ?_
    rotate_left
    · refine ⟨.slice none 0 0, .slice none 0 0, by rw [HPR.out]; rfl, mC2, ?_⟩
      rw [HPR.out]
      exact rat_none _ _ (More.size (show More w _ from mC2))
    · simp [results, Tryz.results24, go_sem, *]
  | some d =>
  have HPE2 : Hid (pR l = pRm l (some m) (some d)) := Lib.hid (by rw [HPE.out, HA.out, htq])
  have HD60 : Hid ((limbs d).length ≤ 60) := Lib.hid (by
    have h := HTT.out
    rw [htq] at h
    cases x3 with
    | true => exact pN_len (show pN x2 = some d by simpa using h.symm)
    | false => have h2 : d = 1 := by simpa using h
               rw [h2, limbs_1']; decide)
  have HW : Hid (wRat (encR (m, d)) ≤ 1048576) := Lib.hid (vd_enc (pB_len HA.out) HD60.out)
  have hF2 : Hid (tRat.fresh w1.heap.size wc [.bool (decide (m < 0)), .slice a2 n2 c2, .slice a3 n3 c3] (encR (m, d))) := Lib.hid (by have h := hF.out; rw [htq] at h; exact h)
  subst htq
  rcases Bool.eq_false_or_eq_true (ratOkB (encR (m, d))) with hr | hr
  rotate_left
  · have HR := Lib.hid hr
    have HPR : Hid (pR l = none) := Lib.hid (by rw [HPE2.out]; exact pRm_no (by rw [hr]; rfl))
    clear hr
    go_wp2_with (go_at_call 47; refine (impl_RatOk _ _ _ (encR (m, d)) _ (Ty.at_more (Ty.fresh_at hF2.out) mC) HW.out).mono ?_; rintro e9 w5 ⟨rfl, hb5⟩; rw [HR.out]; obtain ⟨k0, k1, k2, kf, kl⟩ := hN.keep hb5)
    refine bodyPost_ret (v := .tuple #[.agg #[.bool false, .slice none 0 0, .slice none 0 0], .bool false]) ?_ rfl ?_
    rotate_left
    · refine ⟨.slice none 0 0, .slice none 0 0, by rw [HPR.out]; rfl, mC2, ?_⟩
      rw [HPR.out]
      exact rat_none _ _ (More.size (show More w _ from mC2))
    · simp [results, Tryz.results24, go_sem, *]
  have HR := Lib.hid hr
  have HG : Hid (Good (m, d)) := Lib.hid (good_enc hr)
  clear hr
  rcases Bool.eq_false_or_eq_true (decide (fR (m, d) = l)) with he | he
  rotate_left
  · have HPR : Hid (pR l = none) := Lib.hid (by rw [HPE2.out]; exact pRm_no (by rw [he, Bool.and_false]))
    have hq : ((sB (fR (m, d))).toList == (sB l).toList) = false := by rw [sB_toList, sB_toList]; simpa using he
    have hq2 : ((sB (fR (m, d))).toList != (sB l).toList) = true := by rw [bne, hq]; rfl
    clear he
    go_wp2_with (first | (go_at_call 47; refine (impl_RatOk _ _ _ (encR (m, d)) _ (Ty.at_more (Ty.fresh_at hF2.out) mC) HW.out).mono ?_; rintro e9 w5 ⟨rfl, hb5⟩; rw [HR.out]; obtain ⟨j0, j1, j2, jf, jl⟩ := hX.keep hb5) | (go_at_call 32; refine (impl_formatRat (m, d) _ _ _ HG.out (Ty.at_more (Ty.fresh_at hF2.out) mC) (HT.out.more (More.trans HBC.out mC))).mono ?_; rintro e9 w6 ⟨rfl, hb6⟩; obtain ⟨k0, k1, k2, kf, kl⟩ := hN.keep (More.trans hb5 hb6)))
    refine bodyPost_ret (v := .tuple #[.agg #[.bool false, .slice none 0 0, .slice none 0 0], .bool false]) ?_ rfl ?_
    rotate_left
    · refine ⟨.slice none 0 0, .slice none 0 0, by rw [HPR.out]; rfl, mC2, ?_⟩
      rw [HPR.out]
      exact rat_none _ _ (More.size (show More w _ from mC2))
    · simp [results, Tryz.results24, go_sem, *]
  · have HPR : Hid (pR l = some (m, d)) := Lib.hid (by rw [HPE2.out]; exact pRm_yes (by rw [HR.out, he]; rfl))
    have hq : ((sB (fR (m, d))).toList == (sB l).toList) = true := by rw [sB_toList, sB_toList]; simpa using he
    have hq2 : ((sB (fR (m, d))).toList != (sB l).toList) = false := by rw [bne, hq]; rfl
    clear he
    go_wp2_with (first | (go_at_call 47; refine (impl_RatOk _ _ _ (encR (m, d)) _ (Ty.at_more (Ty.fresh_at hF2.out) mC) HW.out).mono ?_; rintro e9 w5 ⟨rfl, hb5⟩; rw [HR.out]; obtain ⟨j0, j1, j2, jf, jl⟩ := hX.keep hb5) | (go_at_call 32; refine (impl_formatRat (m, d) _ _ _ HG.out (Ty.at_more (Ty.fresh_at hF2.out) mC) (HT.out.more (More.trans HBC.out mC))).mono ?_; rintro e9 w6 ⟨rfl, hb6⟩; obtain ⟨k0, k1, k2, kf, kl⟩ := hN.keep (More.trans hb5 hb6); obtain ⟨i0, i1, i2, iff', il⟩ := hX.keep (More.trans hb5 hb6)))
    refine bodyPost_ret (v := .tuple #[.agg #[.bool (decide (m < 0)), .slice a2 n2 c2, .slice a3 n3 c3], .bool true]) ?_ rfl ?_
    rotate_left
    · refine ⟨.slice a2 n2 c2, .slice a3 n3 c3, by rw [HPR.out]; rfl, mC2, ?_⟩
      rw [HPR.out]
      exact Ty.fresh_mono (Ty.fresh_turns (bs := [w.heap.size]) hF2.out tC (by have h1 := HB1.out.size; simp at h1 ⊢; omega)) (by have h1 := HB1.out.size; simp at h1; omega)
    · simp [results, Tryz.results24, go_sem, *]
end Go.Proofs.YtnbefpfijaimjaaGreatDoor
/- What the pieces of a text are; two ways to read a fraction and a point agree. Plain facts; it speaks of no program. -/
namespace Go.Proofs.YtnbefpfijaimjaaGreatDoor
abbrev NoC (c : UInt8) (l : List UInt8) : Prop := ∀ x ∈ l, x ≠ c
theorem cutC_app {c : UInt8} : ∀ {a b : List UInt8}, NoC c a → cutC c (a ++ c :: b) = (a, b, true)
  | [], b, _ => by
    show cutC c (c :: b) = _
    rw [cutC, if_pos rfl]
  | x :: a, b, h => by
    show cutC c (x :: (a ++ c :: b)) = _
    rw [cutC, if_neg (h x (List.mem_cons_self ..)), cutC_app (fun y hy => h y (List.mem_cons_of_mem _ hy))]
theorem cutC_no {c : UInt8} : ∀ {a : List UInt8}, NoC c a → cutC c a = (a, [], false)
  | [], _ => rfl
  | x :: a, h => by
    rw [cutC, if_neg (h x (List.mem_cons_self ..)), cutC_no (fun y hy => h y (List.mem_cons_of_mem _ hy))]
theorem cutC_spec {c : UInt8} : ∀ {l : List UInt8}, NoC c (cutC c l).1 ∧ ((cutC c l).2.2 = true → l = (cutC c l).1 ++ c :: (cutC c l).2.1) ∧ ((cutC c l).2.2 = false → (cutC c l).1 = l ∧ (cutC c l).2.1 = [])
  | [] => by
    refine ⟨fun x hx => ?_, fun h => ?_, fun _ => ⟨rfl, rfl⟩⟩
    · simp [cutC] at hx
    · simp [cutC] at h
  | b :: t => by
    obtain ⟨h1, h2, h3⟩ := cutC_spec (c := c) (l := t)
    rw [cutC]
    by_cases hb : b = c
    · subst hb
      rw [if_pos rfl]
      exact ⟨fun x hx => by simp at hx, fun _ => rfl, fun h => by simp at h⟩
    · rw [if_neg hb]
      refine ⟨fun x hx => ?_, fun h => ?_, fun h => ?_⟩
      · rcases List.mem_cons.1 hx with rfl | hx
        · exact hb
        · exact h1 x hx
      · show b :: t = b :: ((cutC c t).1 ++ c :: (cutC c t).2.1)
        rw [← h2 h]
      · obtain ⟨k1, k2⟩ := h3 h
        exact ⟨by show b :: (cutC c t).1 = _; rw [k1], k2⟩
theorem dig_noC {l : List UInt8} (h : l.all digB = true) : NoC 44 l ∧ NoC 47 l := by
  constructor
  · intro x hx he
    have h1 := List.all_eq_true.1 h x hx
    subst he
    revert h1
    decide
  · intro x hx he
    have h1 := List.all_eq_true.1 h x hx
    subst he
    revert h1
    decide
theorem digit_dig {d : Nat} (h : d < 10) : digB (UInt8.ofNat (48 + d)) = true := by
  unfold digB
  rw [UInt8.toNat_ofNat', Nat.mod_eq_of_lt (by omega)]
  simp
  omega
theorem dec_dig (n : Nat) : (Lib.decDigits n).all digB = true := by
  induction n using Nat.strongRecOn with
  | ind n ih =>
    by_cases h : n < 10
    · rw [dec_small h, List.all_cons, digit_dig h]
      rfl
    · rw [dec_big h, List.all_append, ih (n / 10) (by omega), List.all_cons, digit_dig (show n % 10 < 10 by omega)]
      rfl
theorem padZ_dig {l : List UInt8} (h : l.all digB = true) : (padZ l).all digB = true := by
  unfold padZ
  rw [List.all_append, h, Bool.and_true]
  rw [List.all_eq_true]
  intro x hx
  rw [List.mem_replicate] at hx
  rw [hx.2]
  decide
theorem fTail_dig (l : List Int) : ∀ k, (fTail l k).all digB = true
  | 0 => rfl
  | k + 1 => by
    unfold fTail
    rw [List.all_append, padZ_dig (show (dI (l.getD k 0)).all digB = true from dec_dig _), fTail_dig l k]
    rfl
theorem fN_dig (l : List Int) : (fN l).all digB = true := by
  unfold fN
  split
  · decide
  · rw [List.all_append, fTail_dig]
    show ((Lib.decDigits _).all digB && true) = true
    rw [dec_dig]
    rfl
theorem fBig_noC (x : QZ) : NoC 44 (fBig x) ∧ NoC 47 (fBig x) := by
  have h := dig_noC (fN_dig x.2)
  unfold fBig
  split
  · refine ⟨fun y hy => ?_, fun y hy => ?_⟩
    · rcases List.mem_cons.1 hy with rfl | hy
      · decide
      · exact h.1 y hy
    · rcases List.mem_cons.1 hy with rfl | hy
      · decide
      · exact h.2 y hy
  · exact h
theorem fR_comma (f : Fr) : NoC 44 (fR f) := by
  unfold fR
  split
  · exact (fBig_noC _).1
  · intro y hy
    rcases List.mem_append.1 hy with hy | hy
    · exact (fBig_noC _).1 y hy
    · rcases List.mem_cons.1 hy with rfl | hy
      · decide
      · exact (dig_noC (fN_dig _)).1 y hy
/-- A fraction's text has at most one stroke. -/
theorem fR_cut (f : Fr) : NoC 47 (cutC 47 (fR f)).2.1 := by
  unfold fR
  split
  · rw [cutC_no (fBig_noC _).2]
    intro x hx
    simp at hx
  · rw [cutC_app (fBig_noC _).2]
    exact (dig_noC (fN_dig _)).2
theorem pRm_some {l : List UInt8} {a : Option Int} {t : Option Nat} {f : Fr} (h : pRm l a t = some f) : fR f = l := by
  cases a with
  | none => rw [pRm_a] at h; cases h
  | some m =>
    cases t with
    | none => rw [pRm_t] at h; cases h
    | some d =>
      rcases Bool.eq_false_or_eq_true (ratOkB (encR (m, d)) && decide (fR (m, d) = l)) with hb | hb
      · rw [pRm_yes hb] at h
        cases h
        rw [Bool.and_eq_true, decide_eq_true_eq] at hb
        exact hb.2
      · rw [pRm_no hb] at h
        cases h
theorem splitC_cons (c : UInt8) (l : List UInt8) : ∃ h t, splitC c l = h :: t ∧ ((∃ r, l = h ++ c :: r ∧ t = splitC c r) ∨ (t = [] ∧ h = l)) := by
  obtain ⟨h1, h2, h3⟩ := cutC_spec (c := c) (l := l)
  cases hb : (cutC c l).2.2 with
  | true =>
    have e := h2 hb
    refine ⟨(cutC c l).1, splitC c (cutC c l).2.1, ?_, .inl ⟨_, e, rfl⟩⟩
    conv => lhs; rw [e]
    exact splitC_at h1
  | false =>
    obtain ⟨e, _⟩ := h3 hb
    exact ⟨l, [], splitC_none (by rw [← e]; exact h1), .inr ⟨rfl, rfl⟩⟩
def denT (r : List (List UInt8)) : Option Nat := match r with
  | [] => some 1
  | w1 :: _ => pN w1
/-- How the reference reads a fraction. -/
theorem pR_split {l : List UInt8} {w0 : List UInt8} {r : List (List UInt8)} (h : splitC 47 l = w0 :: r) : pRm l (pB w0) (denT r) = pR l := by
  obtain ⟨k1, k2, k3⟩ := cutC_spec (c := 47) (l := l)
  unfold pR
  cases hb : (cutC 47 l).2.2 with
  | false =>
    obtain ⟨e, _⟩ := k3 hb
    have e2 : splitC 47 l = [l] := splitC_none (by rw [← e]; exact k1)
    rw [e2] at h
    cases h
    rw [e]
    rfl
  | true =>
    have e := k2 hb
    have e2 : splitC 47 l = (cutC 47 l).1 :: splitC 47 (cutC 47 l).2.1 := by
      conv => lhs; rw [e]
      exact splitC_at k1
    rw [e2] at h
    simp only [List.cons.injEq] at h
    obtain ⟨rfl, rfl⟩ := h
    obtain ⟨w1, t, e3, h4⟩ := splitC_cons 47 (cutC 47 l).2.1
    rw [e3]
    show pRm l _ (pN w1) = pRm l _ (pN (cutC 47 l).2.1)
    rcases h4 with ⟨q, hq, _⟩ | ⟨_, hq⟩
    · have hx2 : pN (cutC 47 l).2.1 = none := by
        cases hp : pN (cutC 47 l).2.1 with
        | none => rfl
        | some n =>
          exact absurd rfl ((dig_noC (pN_ok hp).1).2 47 (by rw [hq]; simp))
      rw [hx2, pRm_t]
      cases hp : pRm l (pB (cutC 47 l).1) (pN w1) with
      | none => rfl
      | some f =>
        have hf := pRm_some hp
        have := fR_cut f
        rw [hf] at this
        exact absurd rfl (this 47 (by rw [hq]; simp))
    · rw [hq]
noncomputable def pP (l : List UInt8) : Option (Fr × Fr) := if (cutC 44 l).2.2 then (match pR (cutC 44 l).1, pR (cutC 44 l).2.1 with | some a, some b => some (a, b) | _, _ => none) else none
/-- How the reference reads a point. -/
theorem pP_split {l : List UInt8} : pP l = (match splitC 44 l with | [a, b] => (match pR a, pR b with | some a, some b => some (a, b) | _, _ => none) | _ => none) := by
  obtain ⟨k1, k2, k3⟩ := cutC_spec (c := 44) (l := l)
  unfold pP
  cases hb : (cutC 44 l).2.2 with
  | false =>
    obtain ⟨e, _⟩ := k3 hb
    have e2 : splitC 44 l = [l] := splitC_none (by rw [← e]; exact k1)
    rw [e2]
    rfl
  | true =>
    have e := k2 hb
    have e2 : splitC 44 l = (cutC 44 l).1 :: splitC 44 (cutC 44 l).2.1 := by
      conv => lhs; rw [e]
      exact splitC_at k1
    obtain ⟨w1, t, e3, h4⟩ := splitC_cons 44 (cutC 44 l).2.1
    rw [e2, e3]
    rcases h4 with ⟨q, hq, ht⟩ | ⟨ht, hq⟩
    · obtain ⟨w2, t2, e4, _⟩ := splitC_cons 44 q
      rw [ht, e4]
      have hn : pR (cutC 44 l).2.1 = none := by
        cases hp : pR (cutC 44 l).2.1 with
        | none => rfl
        | some f =>
          have hf := pRm_some hp
          exact absurd rfl (fR_comma f 44 (by rw [hf, hq]; simp))
      rw [hn]
      cases pR (cutC 44 l).1 <;> rfl
    · subst ht
      rw [hq]
      rfl
end Go.Proofs.YtnbefpfijaimjaaGreatDoor
/- A fraction and a point are read back from their texts. Plain facts; it speaks of no program. -/
namespace Go.Proofs.YtnbefpfijaimjaaGreatDoor
theorem dec_ne (n : Nat) : Lib.decDigits n ≠ [] := by
  by_cases h : n < 10
  · rw [dec_small h]; simp
  · rw [dec_big h]; simp
theorem dec_head : ∀ n : Nat, 0 < n → (Lib.decDigits n)[0]? ≠ some 48 := by
  intro n
  induction n using Nat.strongRecOn with
  | ind n ih =>
    intro hn
    by_cases h : n < 10
    · rw [dec_small h]
      intro he
      have h2 : UInt8.ofNat (48 + n) = 48 := Option.some.inj he
      have h3 := congrArg UInt8.toNat h2
      rw [UInt8.toNat_ofNat', Nat.mod_eq_of_lt (by omega)] at h3
      have : (48 : UInt8).toNat = 48 := rfl
      omega
    · rw [dec_big h]
      have h2 := ih (n / 10) (by omega) (by omega)
      have h3 : 0 < (Lib.decDigits (n / 10)).length := List.length_pos_iff.2 (dec_ne _)
      rw [List.getElem?_append_left h3]
      exact h2
theorem dec_cv (n : Nat) : cv (Lib.decDigits n) = n := by
  induction n using Nat.strongRecOn with
  | ind n ih =>
    have hd : ∀ d : Nat, d < 10 → digV (UInt8.ofNat (48 + d)) = d := by
      intro d hd
      unfold digV
      rw [UInt8.toNat_ofNat', Nat.mod_eq_of_lt (by omega)]
      omega
    by_cases h : n < 10
    · rw [dec_small h]
      show 0 * 10 + digV (UInt8.ofNat (48 + n)) = n
      rw [hd n h]
      omega
    · rw [dec_big h, cv_snoc, ih (n / 10) (by omega), hd (n % 10) (by omega)]
      omega
theorem dec_isDig (n : Nat) : isDig (Lib.decDigits n) = true := by
  unfold isDig
  rw [dec_dig, Bool.and_true]
  simpa using dec_ne n
theorem pN_dec {n : Nat} (h : n < 1000000000) : pN (Lib.decDigits n) = some n := by
  unfold pN
  have hl := dec9 h
  have hz : (decide (1 < (Lib.decDigits n).length) && decide ((Lib.decDigits n)[0]? = some 48)) = false := by
    rcases Nat.eq_zero_or_pos n with rfl | hp
    · rw [dec_small (by decide)]; rfl
    · rw [decide_eq_false (dec_head n hp), Bool.and_false]
  rw [dec_isDig, hz, decide_eq_true (by omega), dec_cv]
  rfl
theorem fN_small {n : Nat} (h : n < 1000000000) : fN (limbs n) = Lib.decDigits n := by
  rcases Nat.eq_zero_or_pos n with rfl | hp
  · rw [limbs_zero]
    unfold fN
    rw [dec_small (by decide)]
    rfl
  · rw [limbs_one (by omega) h]
    show dI (n : Int) ++ [] = _
    rw [dI_nat, List.append_nil]
theorem dig_minus {l : List UInt8} (h : l.all digB = true) : negB l = false := by
  unfold negB
  apply decide_eq_false
  intro he
  have h1 := List.all_eq_true.1 h 45 (List.mem_of_getElem? he)
  revert h1
  decide
theorem pB_dec {n : Nat} (h : n < 1000000000) : pB (Lib.decDigits n) = some (n : Int) := by
  have hn := dig_minus (dec_dig n)
  have ha : absB (Lib.decDigits n) = Lib.decDigits n := by unfold absB; rw [hn]; rfl
  have hp : pN (absB (Lib.decDigits n)) = some n := by rw [ha]; exact pN_dec h
  rw [pB_some hp (by rw [hn]; rfl), hn]
  rfl
theorem pB_neg {n : Nat} (h : n < 1000000000) (h0 : n ≠ 0) : pB (45 :: Lib.decDigits n) = some (-(n : Int)) := by
  have hn : negB (45 :: Lib.decDigits n) = true := by unfold negB; rfl
  have ha : absB (45 :: Lib.decDigits n) = Lib.decDigits n := by unfold absB; rw [hn]; rfl
  have hp : pN (absB (45 :: Lib.decDigits n)) = some n := by rw [ha]; exact pN_dec h
  rw [pB_some hp (by rw [hn, decide_eq_false h0]; rfl), hn]
  rfl
theorem pB_fBig {m : Int} (h : m.natAbs < 1000000000) : pB (fBig (encZ m)) = some m := by
  unfold fBig encZ
  dsimp only
  rw [fN_small h]
  by_cases hm : m < 0
  · rw [decide_eq_true hm, if_pos rfl, pB_neg h (by omega)]
    congr 1
    omega
  · rw [decide_eq_false hm, if_neg (by simp), pB_dec h]
    congr 1
    omega
/-- A fraction of small terms is read back. -/
theorem pR_fR {f : Fr} (hg : Good f) (h1 : f.1.natAbs < 1000000000) (h2 : f.2 < 1000000000) : pR (fR f) = some f := by
  have hok : (ratOkB (encR (f.1, f.2)) && decide (fR (f.1, f.2) = fR f)) = true := by
    rw [Bool.and_eq_true, decide_eq_true_eq]
    exact ⟨ratOk_iff.2 ⟨f, hg, rfl⟩, rfl⟩
  have hbig := (fBig_noC (encZ f.1)).2
  by_cases hd : f.2 = 1
  · have e : fR f = fBig (encZ f.1) := by unfold fR; rw [if_pos hd]
    have hc : cutC 47 (fR f) = (fBig (encZ f.1), [], false) := by rw [e]; exact cutC_no hbig
    rw [pR_eq hc, pB_fBig h1, if_neg (by simp), pRm_yes (by rw [← hd]; exact hok), ← hd]
  · have e : fR f = fBig (encZ f.1) ++ 47 :: fN (limbs f.2) := by unfold fR; rw [if_neg hd]
    have hc : cutC 47 (fR f) = (fBig (encZ f.1), fN (limbs f.2), true) := by rw [e]; exact cutC_app hbig
    rw [pR_eq hc, pB_fBig h1, if_pos rfl, fN_small h2, pN_dec h2, pRm_yes hok]
/-- A point of small terms is read back. -/
theorem pP_fP {f g : Fr} (hf : Good f) (hg : Good g) (h1 : f.1.natAbs < 1000000000) (h2 : f.2 < 1000000000) (h3 : g.1.natAbs < 1000000000) (h4 : g.2 < 1000000000) : pP (fR f ++ 44 :: fR g) = some (f, g) := by
  unfold pP
  rw [cutC_app (fR_comma f), if_pos rfl, pR_fR hf h1 h2, pR_fR hg h3 h4]
end Go.Proofs.YtnbefpfijaimjaaGreatDoor
