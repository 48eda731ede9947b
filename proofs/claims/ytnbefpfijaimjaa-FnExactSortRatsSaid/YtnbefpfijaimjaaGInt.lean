/- Several texts laid together; each has its own word at its head. -/
import Derived.Test.YtnbefpfijaimjaaCmp
import Derived.Test.YtnbefpfijaimjaaGBase
import Derived.Deep.RegionHeld3
/- Comparing raw fractions; lists of fractions. -/
namespace Go.Proofs.Ytnbefpfijaimjaa
open Go.RowKit
noncomputable def rCmp (x y : QR) : Int := frCmp (frOf x) (frOf y)
theorem rCmp_range (x y : QR) : -1 ≤ rCmp x y ∧ rCmp x y ≤ 1 := by
  unfold rCmp frCmp cmpI
  split
  · omega
  split
  · omega
  split <;> omega
theorem impl_ratCmpX (x : QR) (b : Bool) (u v : Value) (y : QR) (c : Bool) (u' v' : Value) (w : World) (hx : ratOkB x = true) (hy : ratOkB y = true) (h : tRat.at w [.bool b, u, v] x) (h' : tRat.at w [.bool c, u', v'] y) :
    Calls Try.prog 37 #[.agg #[.bool b, u, v], .agg #[.bool c, u', v']] w fun e w' => e = .returned (.int .i64 (rCmp x y)) ∧ More w w' := by
  obtain ⟨rfl, a1⟩ := frOf_at h hx
  obtain ⟨rfl, a2⟩ := frOf_at h' hy
  exact impl_ratCmp (frOf x) u v (frOf y) u' v' w a1 (frOf_vd x) a2 (frOf_vd y)
theorem spec_RatCmpX (x : QR) (b : Bool) (u v : Value) (y : QR) (c : Bool) (u' v' : Value) (w : World) (h : tRat.at w [.bool b, u, v] x) (l : wRat x ≤ 1048576) (h' : tRat.at w [.bool c, u', v'] y) (l' : wRat y ≤ 1048576) :
    Calls Try.prog 27 #[.agg #[.bool b, u, v], .agg #[.bool c, u', v']] w fun e w' => e = .returned (.int .i64 (rCmp x y)) ∧ More w w' := spec_RatCmp x b u v y c u' v' w h l h' l'
/-- A built slice of things that hold memory. -/
theorem lit_at {α : Type} {S : Ty α} {w : World} {C : Array Value} {e : TypeId} {N n : Nat} (cs : List (List Value × α)) (hN : w.heap.size = N) (hC : C.toList = cs.flatMap Prod.fst) (hn : cs.length = n) (hs : n ≤ 1048576)
    (h : ∀ p ∈ cs, p.1.length = S.size ∧ S.at w p.1 p.2) : (tSlice S).at (w.alloc (.cells C e)) [.slice (some ⟨N, 0, none⟩) n n] (cs.map Prod.snd) := by
  subst hN
  subst hn
  refine ⟨some ⟨w.heap.size, 0, none⟩, cs.length, by simp, by simp, by unfold maxLen; omega, (fun e => by cases e), fun hl => ⟨w.heap.size, 0, rfl, trivial, by simp, fun k x hx => ?_⟩⟩
  rw [List.getElem?_map] at hx
  obtain ⟨p, hp, rfl⟩ := Option.map_eq_some_iff.1 hx
  refine ⟨p.1, Ty.at_more (h p (List.mem_of_getElem? hp)).2 (Turns.more ((Turns.refl [] _).alloc _)), fun j v hv => ?_⟩
  rw [box_new rfl (More.refl _), ← Array.getElem?_toList, hC]
  have hk := flatMap_chunk (f := Prod.fst) (s := S.size) cs (fun p hp => (h p hp).1) k p hp
  rw [← hk, List.getElem?_take] at hv
  split at hv
  · rw [List.getElem?_drop] at hv
    simpa using hv
  · cases hv
noncomputable def badR (x : QR) : Bool := !ratOkB x
theorem rats_small {l : List QR} (h : wRatS l ≤ 1048576) : l.length ≤ 1048576 ∧ ∀ x ∈ l, wRat x ≤ 1048576 := by
  have h : l.length + wsum wRat l ≤ 1048576 := h
  refine ⟨by omega, fun x hx => ?_⟩
  obtain ⟨i, hi, rfl⟩ := List.getElem_of_mem hx
  have := wsum_el (f := wRat) (List.getElem?_eq_getElem hi)
  omega
set_option maxHeartbeats 1600000 in
theorem impl_allRats_1 (x : QR) (b : Bool) (up vp : Value) (w : World) (h : tRat.at w [.bool b, up, vp] x) (hl : wRat x ≤ 1048576) :
    Calls Try.prog 32 #[.agg #[.bool b, up, vp]] w fun e w' => e = .returned (.bool (badR x)) ∧ More w w' := by
  obtain ⟨-, hu, hv⟩ := rat_split h
  obtain ⟨pa, pn, pc, rfl⟩ := sh1 hu
  obtain ⟨pd, pm, pe, rfl⟩ := sh1 hv
  have Hp := Lib.hid h; have Wp := Lib.hid hl; clear h hl hu hv
  have HX : More (w.alloc (.cells #[.bool b, .slice pa pn pc, .slice pd pm pe] 38)) (w.alloc (.cells #[.bool b, .slice pa pn pc, .slice pd pm pe] 38)) := More.refl _
  have HB : ∀ w', More (w.alloc (.cells #[.bool b, .slice pa pn pc, .slice pd pm pe] 38)) w' → w'.cell? ⟨w.heap.size, 0, none⟩ = some (.bool b) ∧ w'.cell? ⟨w.heap.size, 1, none⟩ = some (.slice pa pn pc) ∧ w'.cell? ⟨w.heap.size, 2, none⟩ = some (.slice pd pm pe) ∧ (∀ j, w'.frozen? ⟨w.heap.size, j, none⟩ = false) := fun w' h => ⟨box_new (by simp) h 0, box_new (by simp) h 1, box_new (by simp) h 2, fun j => box_free (by simp) h j⟩
  go_enter Try.func32, Try.ntmps32
  go_wp2_with (first | (go_at_call 33; refine (impl_RatOk b (.slice pa pn pc) (.slice pd pm pe) x _ (Ty.at_more Hp.out mC) Wp.out).mono ?_; rintro e w1 ⟨rfl, hb1⟩; have HX1 : More (w.alloc (.cells #[.bool b, .slice pa pn pc, .slice pd pm pe] 38)) w1 := mC; have HB1 := HB _ HX1; have hz1 := More.size HX1; (try simp at hz1); have hb1 := hb1))
  go_ret
  exact ⟨rfl, mC⟩
set_option maxHeartbeats 1600000 in
theorem indexFunc_allRats (v : Value) (l : List (QR)) (w : World)  (hv : tRatS.at w [v] l) (hl : l.length ≤ 1048576 ∧ ∀ x ∈ l, wRat x ≤ 1048576) :
    Calls Try.prog 47 #[v, .func (.func 32) #[] #[]] w fun e w' => e = .returned (.int .i64 (idxI badR l)) ∧ More w w' := by
  obtain ⟨ao, cap, rfl⟩ := sl_len hv
  have HV := Lib.hid hv; clear hv
  have HWl := Lib.hid hl.2
  have hl := hl.1
  have Q : Hid (∀ W, More w W → True) := Lib.hid (fun W h => trivial)
  skip
  obtain ⟨n, hn⟩ : ∃ n, n = l.length := ⟨_, rfl⟩
  rw [← hn] at HV hl ⊢
  have HN := Lib.hid hn; clear hn
  go_enter Try.func47, Try.ntmps47
  go_wp2_with fail
  go_loopw [8] (fun i wr => ∃ k : Nat, k ≤ n ∧ i = .int .i64 k ∧ More w wr ∧ Hid (∀ (i : Nat) y, i < k → l[i]? = some y → badR y = false)) (fun i _ => n - (intOf i).toNat)
  case atStart => exact ⟨0, Nat.zero_le _, rfl, More.refl _, Lib.hid (fun i y hi => by omega)⟩
  case round =>
    obtain ⟨k, hk, rfl, hm, HB⟩ := hrel
    by_cases hlt : k < n
    · obtain ⟨b, off, x, a1, n1, c1, a2, n2, c2, rfl, hblt, hx, hat, c0_, c1_, c2_⟩ := el_Rat (Ty.at_more HV.out hm) (k := k) (by rw [← HN.out]; exact hlt)
      have HX := Lib.hid hx; have HA := Lib.hid hat; clear hx hat
      rcases Bool.eq_false_or_eq_true (badR x) with hd | hd
      all_goals
        have HD := Lib.hid hd
        go_wp2_with fail
        refine (impl_allRats_1 x _ _ _ _ (Ty.at_more HA.out mC) (HWl.out x (List.mem_of_getElem? HX.out))).mono ?_
        rintro e w1 ⟨rfl, hb1⟩
        rw [HD.out]
        go_wp2_with fail
      · go_ret
        exact ⟨ret_int (idxI_found HB.out HX.out HD.out).symm, mC⟩
      · go_roundw
        case rel => exact ⟨k + 1, by omega, by go_num, mC, Lib.hid (fun i z hi hz => by
          rcases Nat.lt_succ_iff_lt_or_eq.1 hi with h | rfl
          · exact HB.out i z h hz
          · rw [HX.out] at hz; cases hz; exact HD.out)⟩
        case measure => simp [intOf]; omega
    · go_wp2_with fail
      go_ret
      exact ⟨ret_int (idxI_none (fun i z hz => HB.out i z (by have := (List.getElem?_eq_some_iff.1 hz).1; have := HN.out; omega) hz)).symm, hm⟩
set_option maxHeartbeats 800000 in
theorem containsFunc_allRats (v : Value) (l : List (QR)) (w : World)  (hv : tRatS.at w [v] l) (hl : l.length ≤ 1048576 ∧ ∀ x ∈ l, wRat x ≤ 1048576) :
    Calls Try.prog 31 #[v, .func (.func 32) #[] #[]] w fun e w' => e = .returned (.bool (l.any badR)) ∧ More w w' := by
  have C := Lib.hid (indexFunc_allRats v l w  hv hl)
  clear hv hl 
  go_enter Try.func31, Try.ntmps31
  go_wp2_with (go_at_call 47; refine C.out.mono ?_; rintro e w1 ⟨rfl, hb1⟩)
  go_ret
  exact ⟨ret_bool idxI_nonneg, mC⟩
set_option maxHeartbeats 400000 in
theorem impl_allRats (v : Value) (l : List QR) (w : World) (hv : tRatS.at w [v] l) (hl : l.length ≤ 1048576 ∧ ∀ x ∈ l, wRat x ≤ 1048576) :
    Calls Try.prog 15 #[v] w fun e w' => e = .returned (.bool (l.all ratOkB)) ∧ More w w' := by
  have HV := Lib.hid hv; clear hv
  have HL := Lib.hid hl; clear hl
  go_enter Try.func15, Try.ntmps15
  go_wp2_with (go_at_call 31; refine (containsFunc_allRats _ l _ HV.out HL.out).mono ?_; rintro e w1 ⟨rfl, hb1⟩)
  go_ret
  exact ⟨ret_bool (by rw [List.not_any_eq_all_not]; congr 1; funext x; simp [badR]), mC⟩
end Go.Proofs.Ytnbefpfijaimjaa
/- Whole numbers as fractions. -/
namespace Go.Proofs.Ytnbefpfijaimjaa
open Go.RowKit
theorem frInt_good {n : Int} (h : In64 n) : Good (frInt n) := (frInt_vd h).good (by show (1 : Nat) ≠ 0; decide)
theorem limbs_int {n : Int} (h : In64 n) : (limbs n.natAbs).length ≤ 3 := by
  have h1 := h.out
  refine limbs_len_le.2 ?_
  have h3 : bp 3 = 1000000000000000000000000000 := by decide
  rw [h3]
  omega
theorem int_raw {w : World} {n : Int} {s : Bool} {u v : Value} (hs : decide (n < 0) = s) (h : RatAt w (frInt n) u v) : tRat.at w [.bool s, u, v] (encR (frInt n)) := by
  rw [← hs]
  exact RatAt.out h
theorem ratOk_int {n : Int} (h : In64 n) : ratOkB (encR (frInt n)) = true := ratOk_iff.2 ⟨_, frInt_good h, rfl⟩
theorem wRat_good {f : Fr} (h : Vd f) : wRat (encR f) ≤ 1048576 := by
  have h1 := h.sm1
  have h2 := h.sm2
  show (limbs f.1.natAbs).length + (limbs f.2).length ≤ 1048576
  omega
theorem wRat_int {n : Int} (h : In64 n) : wRat (encR (frInt n)) ≤ 1048576 := wRat_good (frInt_vd h)
end Go.Proofs.Ytnbefpfijaimjaa
