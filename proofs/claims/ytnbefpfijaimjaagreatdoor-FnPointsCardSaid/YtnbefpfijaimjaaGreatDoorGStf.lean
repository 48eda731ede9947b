/- Several texts laid together; each has its own word at its head. -/
import Derived.Test.YtnbefpfijaimjaaGreatDoorGStn
import Derived.Test.YtnbefpfijaimjaaGreatDoorGNatE
import Derived.Test.YtnbefpfijaimjaaGreatDoorGOk
import Derived.Test.YtnbefpfijaimjaaGreatDoorGBig
import Derived.Deep.RegionHeld3
import Derived.Test.YtnbefpfijaimjaaGreatDoorGRt
import Derived.Test.YtnbefpfijaimjaaGreatDoorGNum
/- Natural numbers as texts: the reference's and the program's. -/
namespace Go.Proofs.YtnbefpfijaimjaaGreatDoor
open Go.RowKit
def dI (x : Int) : List UInt8 := Lib.decDigits x.toNat
def fTail (l : List Int) : Nat → List UInt8
  | 0 => []
  | i + 1 => padZ (dI (l.getD i 0)) ++ fTail l i
def fN (l : List Int) : List UInt8 := if l.length = 0 then [48] else dI (l.getD (l.length - 1) 0) ++ fTail l (l.length - 1)
theorem dI_nat (m : Nat) : dI (m : Int) = Lib.decDigits m := rfl
theorem dec9 {m : Nat} (h : m < 1000000000) : (Lib.decDigits m).length ≤ 10 := dec_len (k := 9) (by omega)
theorem padZ_len {l : List UInt8} (h : l.length ≤ 10) : (padZ l).length ≤ 10 := by
  unfold padZ
  rw [List.length_append, List.length_replicate]
  omega
theorem PowTab.more {w w' : World} (h : PowTab w) (hm : More w w') : PowTab w' := by
  unfold PowTab Lib.TabIs World.var? at *
  cases hg : (Tryz.prog).globalNamed "internal/strconv.uint64pow10" with
  | none => rw [hg] at h; simp at h
  | some g =>
    rw [hg] at h
    simp only [Option.bind_some] at h ⊢
    by_cases hlt : g < w.heap.size
    · rw [hm.block g hlt]; exact h
    · rw [Array.getElem?_eq_none (by omega)] at h; simp at h
set_option maxRecDepth 8000 in
set_option maxHeartbeats 3200000 in
theorem spec_FormatNat (v : Value) (l : List Int) (w : World) (hv : tInts.at w [v] l) (hok : natOkB l = true) :
    Calls Tryz.prog 83 #[v] w fun e w' => e = .returned (.string (sB (fN l))) ∧ More w w' := by
  obtain ⟨hl60, hcan⟩ : l.length ≤ 60 ∧ Can l := by unfold natOkB at hok; simpa using hok
  obtain ⟨ao, cap, rfl⟩ := sl_len hv
  have HV := Lib.hid hv; have HOK := Lib.hid hok; have HL := Lib.hid hcan.1
  clear hv hok hcan
  obtain ⟨n, hn⟩ : ∃ n, n = l.length := ⟨_, rfl⟩
  rw [← hn] at HV hl60 ⊢
  have HN := Lib.hid hn; clear hn
  by_cases h0 : n = 0
  · subst h0
    go_enter Tryz.func83, Tryz.ntmps83
    go_wp2_with (go_at_call 112; refine (spec_NatOk _ l _ (Ty.at_more HV.out mC) (by rw [← HN.out]; omega)).mono ?_; rintro e w1 ⟨rfl, hb1⟩; rw [HOK.out])
    go_ret
    exact ⟨by unfold fN; rw [if_pos HN.out.symm]; rfl, mC⟩
  have hn0 : ((n : Int) == 0) = false := by simpa using h0
  obtain ⟨j, hj⟩ : ∃ j, n = j + 1 := ⟨n - 1, by omega⟩
  obtain ⟨b, off, x, rfl, hblt, hx, ox, c0⟩ := int_el HV.out (k := j) (by rw [← HN.out]; omega)
  obtain ⟨hx0, hx9⟩ := HL.out x (List.mem_of_getElem? hx)
  obtain ⟨m, rfl⟩ : ∃ m : Nat, x = (m : Int) := ⟨x.toNat, by omega⟩
  have HX := Lib.hid hx; clear hx ox
  have CX : ∀ w', More w w' → w'.cell? ⟨b, off + j, none⟩ = some (.int .i64 (m : Int)) := fun w' h => ((bcell h).1 _ _ hblt).trans c0
  have k1 : IntKind.i64.wrap ((n : Int) - 1) = (j : Int) := by rw [IntWalk.i64_in _ (by omega)]; omega
  have k2 : IntKind.i64.wrap ((n : Int) - 2) = (j : Int) - 1 := by rw [IntWalk.i64_in _ (by omega)]; omega
  have i0 : (0 : Int) ≤ (j : Int) := by omega
  have i1 : (j : Int) < (n : Int) := by omega
  have HJ := Lib.hid hj; clear hj h0
  go_enter Tryz.func83, Tryz.ntmps83
  go_wp2_with (first | (go_at_call 112; refine (spec_NatOk _ l _ (Ty.at_more HV.out mC) (by rw [← HN.out]; omega)).mono ?_; rintro e w1 ⟨rfl, hb1⟩; rw [HOK.out]; have cx1 := CX w1 mC; clear CX c0) | (go_at_call 114; refine (spec_FormatInt m _ (by omega)).mono ?_; rintro e w2 ⟨rfl, hb2⟩))
  go_loopw [3, 4] (fun vs vi wr => ∃ (k : Nat) (t : List UInt8) (I : Int), vs = .string (sB t) ∧ vi = .int .i64 I ∧ I = (k : Int) - 1 ∧ k ≤ j ∧ More w wr ∧ Hid (t ++ fTail l k = fN l) ∧ Hid (t.length + 10 * k ≤ 610)) (fun _ vi _ => (intOf vi + 1).toNat)
  case atStart => exact ⟨j, Lib.decDigits m, _, rfl, rfl, rfl, Nat.le_refl _, mC, Lib.hid (by unfold fN; rw [← HN.out, HJ.out, if_neg (by omega), Nat.add_sub_cancel, List.getD_eq_getElem?_getD, HX.out]; rfl), Lib.hid (by have := dec9 (m := m) (by omega); omega)⟩
  case round =>
    obtain ⟨k, t, I, rfl, rfl, hI, hk, hm, HT, HTL⟩ := hrel
    by_cases hpos : 0 < k
    · obtain ⟨i, rfl⟩ : ∃ i, k = i + 1 := ⟨k - 1, by omega⟩
      obtain rfl : I = (i : Int) := by omega
      clear hI hpos
      obtain ⟨b', off', y, e9, hblt', hy, oy, d0⟩ := int_el (Ty.at_more HV.out hm) (k := i) (by rw [← HN.out, HJ.out]; omega)
      cases e9
      obtain ⟨hy0, hy9⟩ := HL.out y (List.mem_of_getElem? hy)
      obtain ⟨q, rfl⟩ : ∃ q : Nat, y = (q : Int) := ⟨y.toNat, by omega⟩
      have HY := Lib.hid hy; clear hy oy
      have l0 : (0 : Int) ≤ (i : Int) := by omega
      have l1 : (i : Int) < (n : Int) := by have := HJ.out; omega
      have k3 : IntKind.i64.wrap ((i : Int) - 1) = (i : Int) - 1 := IntWalk.i64_in _ (by omega)
      have HQL : Hid ((Lib.decDigits q).length ≤ 10) := Lib.hid (dec9 (by omega))
      have hadd : ∀ w, (Op.stringOp .add (sB t) (sB (padZ (Lib.decDigits q)))).run Tryz.prog w = .ok (.string (sB (t ++ padZ (Lib.decDigits q)))) w := fun w => add_run _ _ _ w (by have := padZ_len HQL.out; have := HTL.out; omega)
      go_wp2_with (first | (go_at_call 114; refine (spec_FormatInt q _ (by omega)).mono ?_; rintro e w3 ⟨rfl, hb3⟩) | (go_at_call 115; refine (spec_PadZeros _ _ (by have := HQL.out; omega)).mono ?_; rintro e w4 ⟨rfl, hb4⟩))
      go_roundw
      case rel => exact ⟨i, t ++ padZ (Lib.decDigits q), _, rfl, rfl, rfl, by omega, mC, Lib.hid (by
        rw [← HT.out, List.append_assoc]
        congr 1
        show _ = padZ (dI (l.getD i 0)) ++ fTail l i
        rw [List.getD_eq_getElem?_getD, HY.out]
        rfl), Lib.hid (by have := padZ_len HQL.out; have := HTL.out; rw [List.length_append]; omega)⟩
      case measure => simp [intOf] <;> omega
    · have hneg : ¬ (0 : Int) ≤ I := by omega
      clear hI
      go_wp2_with fail
      go_ret
      refine ⟨?_, hm⟩
      have h := HT.out
      rw [show k = 0 by omega] at h
      rw [← h]
      simp [fTail]
abbrev Bld (B b : Nat) (t : List UInt8) (w : World) : Prop := Lib.IsBuilder 111 5 B b (Lib.byteCells t) w
theorem Bld.more {B b : Nat} {t : List UInt8} {w w' : World} (h : Bld B b t w) (hm : More w w') : Bld B b t w' := by
  have key : ∀ p, Lib.BuilderAt 111 5 B b p (Lib.byteCells t) w → Lib.BuilderAt 111 5 B b p (Lib.byteCells t) w' := by
    rintro p h
    have hlt := h.lt
    obtain ⟨h1, v, h2, h3, h4⟩ := h
    exact ⟨h1, v, (hm.block b hlt).trans h2, ownsRow_more h3 hm, h4⟩
  rcases h with h | h
  · exact .inl (key _ h)
  · exact .inr (key _ h)
theorem below_more {W w w' : World} (h : More W w) (hb : Below W.heap.size w w') : More W w' := More.of_below (Below.trans h.out hb)
theorem str_cells (m : List UInt8) : Lib.strCells (sB m) = Lib.byteCells m := by
  unfold Lib.strCells Lib.byteCells
  rw [sB_data]
theorem str_Write (W : World) (b : Nat) (t m : List UInt8) (w : World) (h : Hid (Bld W.heap.size b t w)) (hlen : t.length + m.length ≤ 1048576) (hW : More W w) :
    Calls Tryz.prog 96 #[.pointer (some ⟨b, 0, none⟩), .string (sB m)] w fun e w' => e = .returned (.tuple #[.int .i64 (m.length : Int), .nilIface]) ∧ Hid (Bld W.heap.size b (t ++ m) w') ∧ More W w' := by
  have h1 := Any.Builder_WriteString (P := Tryz.prog) (ρ := laysRepeat_ren) { laysRepeat with } laysX W.heap.size b (Lib.byteCells t) (sB m) w h.out (by rw [sB_size]; unfold Lib.byteCells; rw [List.length_map]; omega) hW.size
  rw [sB_size, str_cells] at h1
  refine h1.mono ?_
  rintro e w' ⟨rfl, h2, h3⟩
  refine ⟨rfl, Lib.hid (.inr ?_), below_more hW h3⟩
  have e9 : Lib.byteCells t ++ Lib.byteCells m = Lib.byteCells (t ++ m) := by unfold Lib.byteCells; rw [List.map_append]
  rw [e9] at h2
  exact h2
theorem str_Built (W : World) (b : Nat) (t : List UInt8) (w : World) (h : Hid (Bld W.heap.size b t w)) (hW : More W w) :
    Calls Tryz.prog 98 #[.pointer (some ⟨b, 0, none⟩)] w fun e w' => e = .returned (.string (sB t)) ∧ More W w' := by
  have h1 := Any.Builder_String_any (P := Tryz.prog) (ρ := laysRepeat_ren) { laysRepeat with } laysX W.heap.size b t w h.out hW.size
  refine h1.mono ?_
  rintro e w' ⟨rfl, h3⟩
  exact ⟨rfl, below_more hW h3⟩
theorem impl_FormatInt (n : Nat) (w : World) (h : n ≤ 1000000000) (ht : PowTab w) :
    Calls Tryz.prog 70 #[.int .i64 (n : Int)] w fun e w' => e = .returned (.string (sB (Lib.decDigits n))) ∧ More w w' := by
  have HT := Lib.hid ht; clear ht
  go_enter Tryz.func70, Tryz.ntmps70
  go_wp2_with (go_at_call 68; refine (str_Itoa n _ h (HT.out.more mC)).mono ?_; rintro e w1 ⟨rfl, hb1⟩)
  go_ret
  exact ⟨rfl, mC⟩
set_option maxRecDepth 8000 in
set_option maxHeartbeats 3200000 in
theorem impl_formatNat (v : Value) (l : List Int) (w : World) (hv : tInts.at w [v] l) (hl60 : l.length ≤ 60) (hL : IsL l) (ht : PowTab w) :
    Calls Tryz.prog 66 #[v] w fun e w' => e = .returned (.string (sB (fN l))) ∧ More w w' := by
  obtain ⟨ao, cap, rfl⟩ := sl_len hv
  have HV := Lib.hid hv; have HL := Lib.hid hL; have HT := Lib.hid ht
  clear hv hL ht
  obtain ⟨n, hn⟩ : ∃ n, n = l.length := ⟨_, rfl⟩
  rw [← hn] at HV hl60 ⊢
  have HN := Lib.hid hn; clear hn
  by_cases h0 : n = 0
  · subst h0
    go_enter Tryz.func66, Tryz.ntmps66
    go_wp2_with fail
    go_ret
    exact ⟨by unfold fN; rw [if_pos HN.out.symm]; rfl, mC⟩
  have hn0 : ((n : Int) == 0) = false := by simpa using h0
  obtain ⟨j, hj⟩ : ∃ j, n = j + 1 := ⟨n - 1, by omega⟩
  obtain ⟨b, off, x, rfl, hblt, hx, ox, c0⟩ := int_el HV.out (k := j) (by rw [← HN.out]; omega)
  obtain ⟨hx0, hx9⟩ := HL.out x (List.mem_of_getElem? hx)
  obtain ⟨m, rfl⟩ : ∃ m : Nat, x = (m : Int) := ⟨x.toNat, by omega⟩
  have HX := Lib.hid hx; clear hx ox
  have k1 : IntKind.i64.wrap ((n : Int) - 1) = (j : Int) := by rw [IntWalk.i64_in _ (by omega)]; omega
  have k2 : IntKind.i64.wrap ((n : Int) - 2) = (j : Int) - 1 := by rw [IntWalk.i64_in _ (by omega)]; omega
  have i0 : (0 : Int) ≤ (j : Int) := by omega
  have i1 : (j : Int) < (n : Int) := by omega
  have HJ := Lib.hid hj; clear hj h0
  have HB0 : Hid (Bld w.heap.size w.heap.size [] (w.alloc (.cells #[.pointer none, .slice none 0 0] 111))) := Lib.hid (Lib.fresh_isBuilder _ _ w)
  have HML : Hid ((Lib.decDigits m).length ≤ 10) := Lib.hid (dec9 (by omega))
  go_enter Tryz.func66, Tryz.ntmps66
  go_wp2_with (first | (go_at_call 70; refine (impl_FormatInt m _ (by omega) (HT.out.more mC)).mono ?_; rintro e w2 ⟨rfl, hb2⟩; have HB2 : Hid (Bld w.heap.size w.heap.size [] w2) := Lib.hid (HB0.out.more hb2)) | (go_at_call 96; refine (str_Write w w.heap.size [] (Lib.decDigits m) _ HB2 (by have := HML.out; simp; omega) mC).mono ?_; rintro e w3 ⟨rfl, HB3, hb3⟩))
  go_loopw [4] (fun vi wr => ∃ (k : Nat) (t : List UInt8) (I : Int), vi = .int .i64 I ∧ I = (k : Int) - 1 ∧ k ≤ j ∧ More w wr ∧ Hid (Bld w.heap.size w.heap.size t wr) ∧ Hid (t ++ fTail l k = fN l) ∧ Hid (t.length + 10 * k ≤ 610)) (fun vi _ => (intOf vi + 1).toNat)
  case atStart => exact ⟨j, Lib.decDigits m, _, rfl, rfl, Nat.le_refl _, mC, HB3, Lib.hid (by unfold fN; rw [← HN.out, HJ.out, if_neg (by omega), Nat.add_sub_cancel, List.getD_eq_getElem?_getD, HX.out]; rfl), Lib.hid (by have := HML.out; omega)⟩
  case round =>
    obtain ⟨k, t, I, rfl, hI, hk, hm, HB, HTT, HTL⟩ := hrel
    by_cases hpos : 0 < k
    · obtain ⟨i, rfl⟩ : ∃ i, k = i + 1 := ⟨k - 1, by omega⟩
      obtain rfl : I = (i : Int) := by omega
      clear hI hpos
      obtain ⟨b', off', y, e9, hblt', hy, oy, d0⟩ := int_el (Ty.at_more HV.out hm) (k := i) (by rw [← HN.out, HJ.out]; omega)
      cases e9
      obtain ⟨hy0, hy9⟩ := HL.out y (List.mem_of_getElem? hy)
      obtain ⟨q, rfl⟩ : ∃ q : Nat, y = (q : Int) := ⟨y.toNat, by omega⟩
      have HY := Lib.hid hy; clear hy oy
      have l0 : (0 : Int) ≤ (i : Int) := by omega
      have l1 : (i : Int) < (n : Int) := by have := HJ.out; omega
      have k3 : IntKind.i64.wrap ((i : Int) - 1) = (i : Int) - 1 := IntWalk.i64_in _ (by omega)
      have HQL : Hid ((Lib.decDigits q).length ≤ 10) := Lib.hid (dec9 (by omega))
      have HMR := Lib.hid hm
      go_wp2_with (first | (go_at_call 70; refine (impl_FormatInt q _ (by omega) (HT.out.more mC)).mono ?_; rintro e w4 ⟨rfl, hb4⟩) | (go_at_call 97; refine (impl_PadZeros _ _ (by have := HQL.out; omega)).mono ?_; rintro e w5 ⟨rfl, hb5⟩; have HB5 : Hid (Bld w.heap.size w.heap.size t w5) := Lib.hid (HB.out.more mC)) | (go_at_call 96; refine (str_Write w w.heap.size t (padZ (Lib.decDigits q)) _ HB5 (by have := padZ_len HQL.out; have := HTL.out; omega) (More.trans HMR.out mC)).mono ?_; rintro e w6 ⟨rfl, HB6, hb6⟩))
      go_roundw
      case rel => exact ⟨i, t ++ padZ (Lib.decDigits q), _, rfl, rfl, by omega, hb6, HB6, Lib.hid (by
        rw [← HTT.out, List.append_assoc]
        congr 1
        show _ = padZ (dI (l.getD i 0)) ++ fTail l i
        rw [List.getD_eq_getElem?_getD, HY.out]
        rfl), Lib.hid (by have := padZ_len HQL.out; have := HTL.out; rw [List.length_append]; omega)⟩
      case measure => simp [intOf] <;> omega
    · have hneg : ¬ (0 : Int) ≤ I := by omega
      clear hI
      have HMR := Lib.hid hm
      go_wp2_with (go_at_call 98; refine (str_Built w w.heap.size t _ HB HMR.out).mono ?_; rintro e w7 ⟨rfl, hb7⟩)
      go_ret
      refine ⟨?_, mC⟩
      have h := HTT.out
      rw [show k = 0 by omega] at h
      rw [← h]
      simp [fTail]
end Go.Proofs.YtnbefpfijaimjaaGreatDoor
/- ParseBigInt: the reference's and the program's. -/
namespace Go.Proofs.YtnbefpfijaimjaaGreatDoor
open Go.RowKit
def pB (l : List UInt8) : Option Int := match pN (absB l) with
  | none => none
  | some n => if negB l && decide (n = 0) then none else some (if negB l then -(n : Int) else (n : Int))
theorem pB_none {l : List UInt8} (h : pN (absB l) = none) : pB l = none := by unfold pB; rw [h]
theorem pB_zero {l : List UInt8} (h : pN (absB l) = some 0) (hn : negB l = true) : pB l = none := by unfold pB; rw [h, hn]; rfl
theorem pB_some {l : List UInt8} {n : Nat} (h : pN (absB l) = some n) (hz : (negB l && decide (n = 0)) = false) : pB l = some (if negB l then -(n : Int) else (n : Int)) := by unfold pB; rw [h]; show (if (negB l && decide (n = 0)) = true then none else _) = _; rw [hz]; rfl
theorem pB_sign {l : List UInt8} {n : Nat} (hz : (negB l && decide (n = 0)) = false) : decide ((if negB l then -(n : Int) else (n : Int)) < 0) = negB l ∧ (if negB l then -(n : Int) else (n : Int)).natAbs = n := by
  cases hb : negB l with
  | false => simp
  | true =>
    rw [hb] at hz
    have : n ≠ 0 := by simpa using hz
    simp
    omega
theorem bp_ten (k : Nat) : bp k = ((10 ^ (9 * k) : Nat) : Int) := by
  induction k with
  | zero => rfl
  | succ k ih =>
    show BB * bp k = _
    rw [ih, Nat.mul_succ, Nat.pow_add, Nat.mul_comm (10 ^ (9 * k)), Int.natCast_mul]
    rfl
theorem pN_limbs {l : List UInt8} {n : Nat} (h : pN l = some n) : natOkB (limbs n) = true := by
  obtain ⟨h1, h2, h3, rfl⟩ := pN_ok h
  have key : ∀ k, l.length ≤ 9 * k → (limbs (cv l)).length ≤ k := by
    intro k hk
    rw [limbs_len_le, bp_ten]
    exact Int.ofNat_lt.2 (Nat.lt_of_lt_of_le (cv_lt h1) (Nat.pow_le_pow_right (by omega) hk))
  have h4 := key 60 (by omega)
  unfold natOkB
  simpa using ⟨h4, limbs_can _⟩
theorem pN_len {l : List UInt8} {n : Nat} (h : pN l = some n) : (limbs n).length ≤ 60 := by
  have h1 := pN_limbs h
  unfold natOkB at h1
  have h2 : (limbs n).length ≤ 60 ∧ Can (limbs n) := by simpa using h1
  exact h2.1
theorem pN_big {l : List UInt8} {n : Nat} (h : pN l = some n) (b : Bool) : bigOkB (b, limbs n) = !(b && decide (n = 0)) := by
  unfold bigOkB
  rw [pN_limbs h, Bool.true_and]
  congr 2
  apply decide_eq_decide.2
  show (limbs n).length = 0 ↔ _
  rw [List.length_eq_zero_iff, limbs_nil]
theorem abs_sB {l : List UInt8} (h : negB l = true) : (sB l).extract 1 l.length = sB (absB l) := by
  rw [sB_extract, List.take_length]
  unfold absB
  rw [if_pos h]
theorem big_done {w w1 W : World} {v : Value} {m : Nat} {N : Nat} (hN : N < w1.heap.size) (F : ∃ w2, FlatOwn fInt w1.heap.size 3 w2 v (limbs m) ∧ Turns [N] w2 W) (hB : w.heap.size ≤ w1.heap.size) : tInts.fresh w.heap.size W [v] (limbs m) := by
  obtain ⟨w2, F, t⟩ := F
  exact Ty.fresh_mono (Ty.fresh_turns F.fresh t (fun k hk => by simp at hk; omega)) hB
set_option maxRecDepth 8000 in
set_option maxHeartbeats 3200000 in
theorem impl_ParseBigInt (l : List UInt8) (w : World) (hl : l.length ≤ 1048576) :
    Calls Tryz.prog 45 #[.string (sB l)] w fun e w' => ∃ v', e = .returned (.tuple #[.agg #[.bool (decide ((pB l).getD 0 < 0)), v'], .bool (pB l).isSome]) ∧ More w w' ∧ tInts.fresh w.heap.size w' [v'] (limbs ((pB l).getD 0).natAbs) := by
  have HA : Hid ((absB l).length ≤ 1048576) := Lib.hid (Nat.le_trans (absB_len l) hl)
  have N0 : ∀ w', More (w.alloc (.cells #[.bool false, .slice none 0 0] 24)) w' → w'.cell? ⟨w.heap.size, 0, none⟩ = some (.bool false) ∧ w'.cell? ⟨w.heap.size, 1, none⟩ = some (.slice none 0 0) ∧ ∀ j, w'.frozen? ⟨w.heap.size, j, none⟩ = false := fun w' h => ⟨box_new (by simp) h 0, box_new (by simp) h 1, box_free (by simp) h⟩
  cases hp : pN (absB l) with
  | none =>
    have HP := Lib.hid hp; clear hp
    go_enter Tryz.func45, Tryz.ntmps45
    go_wp2_with (first | (go_at_call 85; refine (str_CutPrefix l _).mono ?_; rintro e w1 ⟨rfl, rfl⟩) | (go_at_call 46; refine (impl_ParseNat (absB l) _ HA.out).mono ?_; rintro e w2 ⟨v2, rfl, hb2, f2⟩; rw [HP.out] at f2 ⊢; simp only [Option.getD_none] at f2; obtain ⟨a2, k2, c2, rfl⟩ := sh1 f2.at; have F2 := Lib.hid f2; clear f2; obtain ⟨n0, n1, nf⟩ := N0 w2 mC; have nl : w.heap.size < w2.heap.size := by have := hb2.size; simp at this; omega))
    refine bodyPost_ret (v := .tuple #[.agg #[.bool false, .slice none 0 0], .bool false]) ?_ rfl ?_
    rotate_left
    · exact ⟨.slice none 0 0, by rw [pB_none HP.out]; rfl, mC2, by rw [pB_none HP.out]; exact nil_fresh⟩
    · simp [results, Tryz.results45, go_sem, *]
  | some n =>
    have HP := Lib.hid hp; clear hp
    have HBB : Hid (∀ b, bigOkB (b, limbs n) = !(b && decide (n = 0))) := Lib.hid (pN_big HP.out)
    have HLN : Hid ((limbs n).length ≤ 60) := Lib.hid (pN_len HP.out)
    rcases Bool.eq_false_or_eq_true (negB l && decide (n = 0)) with hz | hz
    rotate_left
    · have HZ := Lib.hid hz; clear hz
      have HOKC : Hid (∀ (v : Value) (w : World), tInts.at w [v] (limbs n) → Calls Tryz.prog 86 #[.agg #[.bool (negB l), v]] w fun e w' => e = .returned (.bool true) ∧ More w w') := Lib.hid (fun v w hv => (impl_BigIntOk (negB l) v (negB l, limbs n) w rfl hv (Nat.le_trans HLN.out (by decide))).mono (fun e w' h => ⟨by rw [h.1, HBB.out, HZ.out]; rfl, h.2⟩))
      go_enter Tryz.func45, Tryz.ntmps45
      go_wp2_with (first | (go_at_call 86; refine (HOKC.out (.slice a2 k2 c2) _ (Ty.at_more F2.out.at mC2)).mono ?_; rintro e w3 ⟨rfl, hb3⟩; obtain ⟨m0, m1, mf⟩ := N0 w3 (More.trans hb2 mC2); have ml : w.heap.size < w3.heap.size := Nat.lt_of_lt_of_le nl (More.size (show More w2 w3 from mC2)); have x0 : w3.cell? ⟨w2.heap.size, 0, none⟩ = some (.bool (negB l)) := box_new (by simp) hb3 0; have x1 : w3.cell? ⟨w2.heap.size, 1, none⟩ = some (.slice a2 k2 c2) := box_new (by simp) hb3 1) | (go_at_call 85; refine (str_CutPrefix l _).mono ?_; rintro e w1 ⟨rfl, rfl⟩) | (go_at_call 46; refine (impl_ParseNat (absB l) _ HA.out).mono ?_; rintro e w2 ⟨v2, rfl, hb2, f2⟩; rw [HP.out] at f2 ⊢; simp only [Option.getD_some] at f2; obtain ⟨a2, k2, c2, rfl⟩ := sh1 f2.at; have F2 := Lib.hid f2; clear f2; obtain ⟨n0, n1, nf⟩ := N0 w2 mC; have nl : w.heap.size < w2.heap.size := by have := hb2.size; simp at this; omega))
      refine bodyPost_ret (v := .tuple #[.agg #[.bool (negB l), .slice a2 k2 c2], .bool true]) ?_ rfl ?_
      rotate_left
      · have hs := pB_sign HZ.out
        refine ⟨.slice a2 k2 c2, ?_, mC2, ?_⟩
        · rw [pB_some HP.out HZ.out]
          show _ = Ending.returned (.tuple #[.agg #[.bool (decide ((if negB l then -(n : Int) else (n : Int)) < 0)), _], _])
          rw [hs.1]
          rfl
        · rw [pB_some HP.out HZ.out]
          show tInts.fresh _ _ _ (limbs (if negB l then -(n : Int) else (n : Int)).natAbs)
          rw [hs.2]
          exact Ty.fresh_mono (Ty.fresh_turns (bs := [w.heap.size]) F2.out.fresh tC (by simp)) (by simp)
      · simp [results, Tryz.results45, go_sem, *]
    · have HZ := Lib.hid hz; clear hz
      have HOKC : Hid (∀ (v : Value) (w : World), tInts.at w [v] (limbs n) → Calls Tryz.prog 86 #[.agg #[.bool (negB l), v]] w fun e w' => e = .returned (.bool false) ∧ More w w') := Lib.hid (fun v w hv => (impl_BigIntOk (negB l) v (negB l, limbs n) w rfl hv (Nat.le_trans HLN.out (by decide))).mono (fun e w' h => ⟨by rw [h.1, HBB.out, HZ.out]; rfl, h.2⟩))
      go_enter Tryz.func45, Tryz.ntmps45
      go_wp2_with (first | (go_at_call 86; refine (HOKC.out (.slice a2 k2 c2) _ (Ty.at_more F2.out.at mC2)).mono ?_; rintro e w3 ⟨rfl, hb3⟩; obtain ⟨m0, m1, mf⟩ := N0 w3 (More.trans hb2 mC2); have ml : w.heap.size < w3.heap.size := Nat.lt_of_lt_of_le nl (More.size (show More w2 w3 from mC2)); have x0 : w3.cell? ⟨w2.heap.size, 0, none⟩ = some (.bool (negB l)) := box_new (by simp) hb3 0; have x1 : w3.cell? ⟨w2.heap.size, 1, none⟩ = some (.slice a2 k2 c2) := box_new (by simp) hb3 1) | (go_at_call 85; refine (str_CutPrefix l _).mono ?_; rintro e w1 ⟨rfl, rfl⟩) | (go_at_call 46; refine (impl_ParseNat (absB l) _ HA.out).mono ?_; rintro e w2 ⟨v2, rfl, hb2, f2⟩; rw [HP.out] at f2 ⊢; simp only [Option.getD_some] at f2; obtain ⟨a2, k2, c2, rfl⟩ := sh1 f2.at; have F2 := Lib.hid f2; clear f2; obtain ⟨n0, n1, nf⟩ := N0 w2 mC; have nl : w.heap.size < w2.heap.size := by have := hb2.size; simp at this; omega))
      have hb0 := HZ.out
      rw [Bool.and_eq_true, decide_eq_true_eq] at hb0
      obtain ⟨hn1, rfl⟩ := hb0
      refine bodyPost_ret (v := .tuple #[.agg #[.bool false, .slice none 0 0], .bool false]) ?_ rfl ?_
      rotate_left
      · exact ⟨.slice none 0 0, by rw [pB_zero HP.out hn1]; rfl, mC2, by rw [pB_zero HP.out hn1]; exact nil_fresh⟩
      · simp [results, Tryz.results45, go_sem, *]
set_option maxRecDepth 8000 in
set_option maxHeartbeats 6400000 in
theorem spec_ParseBigInt (l : List UInt8) (w : World) (hl : l.length ≤ 1048576) :
    Calls Tryz.prog 41 #[.string (sB l)] w fun e w' => ∃ v', e = .returned (.tuple #[.agg #[.bool (decide ((pB l).getD 0 < 0)), v'], .bool (pB l).isSome]) ∧ More w w' ∧ tInts.fresh w.heap.size w' [v'] (limbs ((pB l).getD 0).natAbs) := by
  have N0 : ∀ w', More (w.alloc (.cells #[.bool false, .slice none 0 0] 24)) w' → w'.cell? ⟨w.heap.size, 0, none⟩ = some (.bool false) ∧ w'.cell? ⟨w.heap.size, 1, none⟩ = some (.slice none 0 0) ∧ ∀ j, w'.frozen? ⟨w.heap.size, j, none⟩ = false := fun w' h => ⟨box_new (by simp) h 0, box_new (by simp) h 1, box_free (by simp) h⟩
  obtain ⟨n, hn⟩ : ∃ n, n = l.length := ⟨_, rfl⟩
  have hs : (sB l).size = n := by rw [sB_size, hn]
  have HN := Lib.hid hn; clear hn
  rcases Bool.eq_false_or_eq_true (negB l) with hneg | hneg
  · have HNG := Lib.hid hneg
    have HA : Hid ((absB l).length ≤ 1048576) := Lib.hid (Nat.le_trans (absB_len l) hl)
    have HAB : Hid (absB l = absB l) := Lib.hid rfl
    have hc0 : l[0]? = some 45 := by unfold negB at hneg; simpa using hneg
    have hn0 : 0 < n := by rw [HN.out]; exact (List.getElem?_eq_some_iff.1 hc0).1
    have hn0' : (0 : Int) < (n : Int) := by omega
    have hn1' : (1 : Int) ≤ (n : Int) := by omega
    have hg0 : ∀ h, (sB l)[0]'h = 45 := fun h => sB_get hc0 h
    have hext : (sB l).extract 1 n = sB (absB l) := by rw [HN.out]; exact abs_sB hneg
    clear hneg hc0
    cases hp : pN (absB l) with
    | none =>
      have HP := Lib.hid hp; have HPA : Hid (pN (absB l) = none) := Lib.hid (by first | exact hp | (rw [HAB.out]; exact hp)); clear hp
      go_enter Tryz.func41, Tryz.ntmps41
      go_wp2_with (go_at_call 42; refine (spec_ParseNat (absB l) _ HA.out).mono ?_; rintro e w2 ⟨v2, rfl, hb2, f2⟩; rw [HP.out] at f2 ⊢; simp only [Option.getD_none] at f2; obtain ⟨a2, c2, rfl⟩ := f2.len; have F2 := Lib.hid f2; clear f2; obtain ⟨n0, n1, nf⟩ := N0 w2 mC; have nl : w.heap.size < w2.heap.size := by have := hb2.size; simp at this; omega)
      refine bodyPost_ret (v := .tuple #[.agg #[.bool false, .slice none 0 0], .bool false]) ?_ rfl ?_
      rotate_left
      · exact ⟨.slice none 0 0, by rw [pB_none HPA.out]; rfl, mC2, by rw [pB_none HPA.out]; exact nil_fresh⟩
      · simp [results, Tryz.results41, go_sem, *]
    | some m =>
      have HP := Lib.hid hp; have HPA : Hid (pN (absB l) = some m) := Lib.hid (by first | exact hp | (rw [HAB.out]; exact hp)); clear hp
      have hK : (((limbs m).length : Int) == 0) = decide (m = 0) := by
        rw [Bool.eq_iff_iff, beq_iff_eq, decide_eq_true_eq, ← limbs_nil, ← List.length_eq_zero_iff]
        omega
      rcases Bool.eq_false_or_eq_true (negB l && decide (m = 0)) with hz | hz
      rotate_left
      · have HZ := Lib.hid hz; clear hz
        have hm0 : (m == 0) = false := by have := HZ.out; rw [HNG.out] at this; simpa using this
        have hm1 : decide (m = 0) = false := by simpa using hm0
        all_goals
          go_enter Tryz.func41, Tryz.ntmps41
          go_wp2_with (go_at_call 42; refine (spec_ParseNat (absB l) _ HA.out).mono ?_; rintro e w2 ⟨v2, rfl, hb2, f2⟩; rw [HP.out] at f2 ⊢; simp only [Option.getD_some] at f2; obtain ⟨a2, c2, rfl⟩ := f2.len; have F2 := Lib.hid f2; clear f2; obtain ⟨n0, n1, nf⟩ := N0 w2 mC; have nl : w.heap.size < w2.heap.size := by have := hb2.size; simp at this; omega)
          refine bodyPost_ret (v := .tuple #[.agg #[.bool true, .slice a2 (limbs m).length c2], .bool true]) ?_ rfl ?_
          rotate_left
          · have hs := pB_sign HZ.out
            refine ⟨.slice a2 (limbs m).length c2, ?_, mC2, ?_⟩
            · rw [pB_some HPA.out HZ.out]
              show _ = Ending.returned (.tuple #[.agg #[.bool (decide ((if negB l then -(m : Int) else (m : Int)) < 0)), _], _])
              rw [hs.1, HNG.out]
              rfl
            · rw [pB_some HPA.out HZ.out]
              show tInts.fresh _ _ _ (limbs (if negB l then -(m : Int) else (m : Int)).natAbs)
              rw [hs.2]
              exact Ty.fresh_mono (Ty.fresh_turns (bs := [w.heap.size]) F2.out.fresh tC (by simp)) (by simp)
          · simp [results, Tryz.results41, go_sem, *]
      · have HZ := Lib.hid hz
        rw [HNG.out] at hz
        have hm0 : m = 0 := by simpa using hz
        subst hm0
        have hK0 : (limbs 0).length = 0 := by rw [limbs_zero]; rfl
        clear hz
        go_enter Tryz.func41, Tryz.ntmps41
        go_wp2_with (go_at_call 42; refine (spec_ParseNat (absB l) _ HA.out).mono ?_; rintro e w2 ⟨v2, rfl, hb2, f2⟩; rw [HP.out] at f2 ⊢; simp only [Option.getD_some] at f2; obtain ⟨a2, c2, rfl⟩ := f2.len; have F2 := Lib.hid f2; clear f2; obtain ⟨n0, n1, nf⟩ := N0 w2 mC; have nl : w.heap.size < w2.heap.size := by have := hb2.size; simp at this; omega)
        refine bodyPost_ret (v := .tuple #[.agg #[.bool false, .slice none 0 0], .bool false]) ?_ rfl ?_
        rotate_left
        · exact ⟨.slice none 0 0, by rw [pB_zero HPA.out HNG.out]; rfl, mC2, by rw [pB_zero HPA.out HNG.out]; exact nil_fresh⟩
        · simp [results, Tryz.results41, go_sem, *]
  · have HNG := Lib.hid hneg
    have HA : Hid (l.length ≤ 1048576) := Lib.hid hl
    have HAB : Hid (absB l = l) := Lib.hid (by unfold absB; rw [hneg]; rfl)
    have hdec : ((0 : Int) < (n : Int) ∧ ∃ c : UInt8, (∀ h, (sB l)[0]'h = c) ∧ ((c.toNat : Int) == 45) = false) ∨ ¬ (0 : Int) < (n : Int) := by
      cases l with
      | nil => exact .inr (by rw [HN.out]; simp)
      | cons a t =>
        refine .inl ⟨by rw [HN.out]; simp, a, fun h => sB_get rfl h, ?_⟩
        have h1 : a ≠ 45 := by unfold negB at hneg; simpa using hneg
        rw [beq_eq_false_iff_ne]
        intro h2
        exact h1 (UInt8.toNat_inj.1 (by have h9 : (45 : UInt8).toNat = 45 := rfl; omega))
    clear hneg
    rcases hdec with ⟨hn0', c0, hg0, h45⟩ | hn0'
    all_goals
      cases hp : pN l with
      | none =>
        have HP := Lib.hid hp; have HPA : Hid (pN (absB l) = none) := Lib.hid (by first | exact hp | (rw [HAB.out]; exact hp)); clear hp
        go_enter Tryz.func41, Tryz.ntmps41
        go_wp2_with (go_at_call 42; refine (spec_ParseNat l _ HA.out).mono ?_; rintro e w2 ⟨v2, rfl, hb2, f2⟩; rw [HP.out] at f2 ⊢; simp only [Option.getD_none] at f2; obtain ⟨a2, c2, rfl⟩ := f2.len; have F2 := Lib.hid f2; clear f2; obtain ⟨n0, n1, nf⟩ := N0 w2 mC; have nl : w.heap.size < w2.heap.size := by have := hb2.size; simp at this; omega)
        refine bodyPost_ret (v := .tuple #[.agg #[.bool false, .slice none 0 0], .bool false]) ?_ rfl ?_
        rotate_left
        · exact ⟨.slice none 0 0, by rw [pB_none HPA.out]; rfl, mC2, by rw [pB_none HPA.out]; exact nil_fresh⟩
        · simp [results, Tryz.results41, go_sem, *]
      | some m =>
        have HP := Lib.hid hp; have HPA : Hid (pN (absB l) = some m) := Lib.hid (by first | exact hp | (rw [HAB.out]; exact hp)); clear hp
        have hK : (((limbs m).length : Int) == 0) = decide (m = 0) := by
          rw [Bool.eq_iff_iff, beq_iff_eq, decide_eq_true_eq, ← limbs_nil, ← List.length_eq_zero_iff]
          omega
        rcases Bool.eq_false_or_eq_true (negB l && decide (m = 0)) with hz | hz
        rotate_left
        · have HZ := Lib.hid hz; clear hz
          skip
          all_goals
            go_enter Tryz.func41, Tryz.ntmps41
            go_wp2_with (go_at_call 42; refine (spec_ParseNat l _ HA.out).mono ?_; rintro e w2 ⟨v2, rfl, hb2, f2⟩; rw [HP.out] at f2 ⊢; simp only [Option.getD_some] at f2; obtain ⟨a2, c2, rfl⟩ := f2.len; have F2 := Lib.hid f2; clear f2; obtain ⟨n0, n1, nf⟩ := N0 w2 mC; have nl : w.heap.size < w2.heap.size := by have := hb2.size; simp at this; omega)
            refine bodyPost_ret (v := .tuple #[.agg #[.bool false, .slice a2 (limbs m).length c2], .bool true]) ?_ rfl ?_
            rotate_left
            · have hs := pB_sign HZ.out
              refine ⟨.slice a2 (limbs m).length c2, ?_, mC2, ?_⟩
              · rw [pB_some HPA.out HZ.out]
                show _ = Ending.returned (.tuple #[.agg #[.bool (decide ((if negB l then -(m : Int) else (m : Int)) < 0)), _], _])
                rw [hs.1, HNG.out]
                rfl
              · rw [pB_some HPA.out HZ.out]
                show tInts.fresh _ _ _ (limbs (if negB l then -(m : Int) else (m : Int)).natAbs)
                rw [hs.2]
                exact Ty.fresh_mono (Ty.fresh_turns (bs := [w.heap.size]) F2.out.fresh tC (by simp)) (by simp)
            · simp [results, Tryz.results41, go_sem, *]
        · have HZ := Lib.hid hz
          rw [HNG.out] at hz
          cases hz
end Go.Proofs.YtnbefpfijaimjaaGreatDoor
/- Whole numbers and fractions as texts: the reference's and the program's. -/
namespace Go.Proofs.YtnbefpfijaimjaaGreatDoor
open Go.RowKit
def fBig (x : QZ) : List UInt8 := if x.1 then 45 :: fN x.2 else fN x.2
def fR (f : Fr) : List UInt8 := if f.2 = 1 then fBig (encZ f.1) else fBig (encZ f.1) ++ 47 :: fN (limbs f.2)
theorem dI_len {l : List Int} (h : IsL l) (i : Nat) : (dI (l.getD i 0)).length ≤ 10 := by
  have h1 := h.get i
  unfold dI
  exact dec9 (by omega)
theorem fTail_len {l : List Int} (h : IsL l) : ∀ k, (fTail l k).length ≤ 10 * k
  | 0 => by simp [fTail]
  | k + 1 => by
    have h1 := fTail_len h k
    have h2 := padZ_len (dI_len h k)
    unfold fTail
    rw [List.length_append]
    omega
theorem fN_len {l : List Int} (h : IsL l) (hl : l.length ≤ 60) : (fN l).length ≤ 610 := by
  unfold fN
  split
  · simp
  · have h1 := fTail_len h (l.length - 1)
    have h2 := dI_len h (l.length - 1)
    rw [List.length_append]
    omega
theorem fBig_len {x : QZ} (h : IsL x.2) (hl : x.2.length ≤ 60) : (fBig x).length ≤ 620 := by
  have := fN_len h hl
  unfold fBig
  split
  · rw [List.length_cons]; omega
  · omega
set_option maxRecDepth 8000 in
set_option maxHeartbeats 3200000 in
theorem impl_formatBig (v : Value) (x : QZ) (w : World) (hv : tInts.at w [v] x.2) (hl : x.2.length ≤ 60) (hL : IsL x.2) (ht : PowTab w) :
    Calls Tryz.prog 65 #[.agg #[.bool x.1, v]] w fun e w' => e = .returned (.string (sB (fBig x))) ∧ More w w' := by
  obtain ⟨a, n, c, rfl⟩ := sh1 hv
  have HV := Lib.hid hv; clear hv
  have HL := Lib.hid hl; have HI := Lib.hid hL; have HT := Lib.hid ht; clear hl hL ht
  have hadd : ∀ w, (Op.stringOp .add ⟨#[45]⟩ (sB (fN x.2))).run Tryz.prog w = .ok (.string (sB (45 :: fN x.2))) w := fun w => add_run _ [45] (fN x.2) w (by have := fN_len HI.out HL.out; simp; omega)
  have HX : More (w.alloc (.cells #[.bool x.1, .slice a n c] 24)) (w.alloc (.cells #[.bool x.1, .slice a n c] 24)) := More.refl _
  have HB : ∀ w', More (w.alloc (.cells #[.bool x.1, .slice a n c] 24)) w' → w'.cell? ⟨w.heap.size, 0, none⟩ = some (.bool x.1) ∧ w'.cell? ⟨w.heap.size, 1, none⟩ = some (.slice a n c) ∧ (∀ j, w'.frozen? ⟨w.heap.size, j, none⟩ = false) := fun w' h => ⟨box_new (by simp) h 0, box_new (by simp) h 1, fun j => box_free (by simp) h j⟩
  rcases Bool.eq_false_or_eq_true x.1 with hs | hs
  all_goals
    have HS := Lib.hid hs
    rw [hs] at HB ⊢
    clear hs
    go_enter Tryz.func65, Tryz.ntmps65
    go_wp2_with (first | (go_at_call 66; refine (impl_formatNat (.slice a n c) x.2 _ (Ty.at_more HV.out mC) HL.out HI.out (HT.out.more mC)).mono ?_; rintro e w5 ⟨rfl, hb5⟩))
    go_ret
    exact ⟨by unfold fBig; rw [HS.out]; rfl, mC⟩
set_option maxRecDepth 8000 in
set_option maxHeartbeats 3200000 in
theorem spec_FormatBigInt (v : Value) (x : QZ) (w : World) (hv : tInts.at w [v] x.2) (hok : bigOkB x = true) :
    Calls Tryz.prog 82 #[.agg #[.bool x.1, v]] w fun e w' => e = .returned (.string (sB (fBig x))) ∧ More w w' := by
  obtain ⟨a, n, c, rfl⟩ := sh1 hv
  have HV := Lib.hid hv; clear hv
  have hnat : natOkB x.2 = true := by unfold bigOkB at hok; rw [Bool.and_eq_true] at hok; exact hok.1
  have hlc : x.2.length ≤ 60 ∧ Can x.2 := by unfold natOkB at hnat; simpa using hnat
  have HL := Lib.hid hlc.1; have HI := Lib.hid hlc.2.1; have HOK := Lib.hid hok; have HNO := Lib.hid hnat; clear hok hnat hlc
  have hadd : ∀ w, (Op.stringOp .add ⟨#[45]⟩ (sB (fN x.2))).run Tryz.prog w = .ok (.string (sB (45 :: fN x.2))) w := fun w => add_run _ [45] (fN x.2) w (by have := fN_len HI.out HL.out; simp; omega)
  have HX : More (w.alloc (.cells #[.bool x.1, .slice a n c] 24)) (w.alloc (.cells #[.bool x.1, .slice a n c] 24)) := More.refl _
  have HB : ∀ w', More (w.alloc (.cells #[.bool x.1, .slice a n c] 24)) w' → w'.cell? ⟨w.heap.size, 0, none⟩ = some (.bool x.1) ∧ w'.cell? ⟨w.heap.size, 1, none⟩ = some (.slice a n c) ∧ (∀ j, w'.frozen? ⟨w.heap.size, j, none⟩ = false) := fun w' h => ⟨box_new (by simp) h 0, box_new (by simp) h 1, fun j => box_free (by simp) h j⟩
  rcases Bool.eq_false_or_eq_true x.1 with hs | hs
  all_goals
    have HS := Lib.hid hs
    rw [hs] at HB ⊢
    have HOKX : Hid (∀ (v : Value) (w : World), tInts.at w [v] x.2 → Calls Tryz.prog 111 #[.agg #[.bool _, v]] w fun e w' => e = .returned (.bool true) ∧ More w w') := Lib.hid (fun v w hv => (spec_BigIntOk _ v x w hs hv (Nat.le_trans HL.out (by decide))).mono (fun e w' h => ⟨by rw [h.1, HOK.out], h.2⟩))
    clear hs
    go_enter Tryz.func82, Tryz.ntmps82
    go_wp2_with (first | (go_at_call 111; refine (HOKX.out (.slice a n c) _ (Ty.at_more HV.out mC)).mono ?_; rintro e w1 ⟨rfl, hb1⟩; obtain ⟨q0, q1, qf⟩ := HB w1 mC) | (go_at_call 83; refine (spec_FormatNat (.slice a n c) x.2 _ (Ty.at_more HV.out mC) HNO.out).mono ?_; rintro e w5 ⟨rfl, hb5⟩))
    go_ret
    exact ⟨by unfold fBig; rw [HS.out]; rfl, mC⟩
end Go.Proofs.YtnbefpfijaimjaaGreatDoor
/- Fractions as texts: the reference's and the program's. -/
namespace Go.Proofs.YtnbefpfijaimjaaGreatDoor
open Go.RowKit
set_option maxRecDepth 8000 in
set_option maxHeartbeats 6400000 in
theorem impl_formatRat (f : Fr) (u v : Value) (w : World) (hg : Good f) (hv : tRat.at w [.bool (decide (f.1 < 0)), u, v] (encR f)) (ht : PowTab w) :
    Calls Tryz.prog 32 #[.agg #[.bool (decide (f.1 < 0)), u, v]] w fun e w' => e = .returned (.string (sB (fR f))) ∧ More w w' := by
  obtain ⟨_, h1, h2⟩ := rat_split hv
  have h1 : tInts.at w [u] (limbs f.1.natAbs) := h1
  have h2 : tInts.at w [v] (limbs f.2) := h2
  obtain ⟨a, n, c, rfl⟩ := sh1 h1
  obtain ⟨d, m, e, rfl⟩ := sh1 h2
  have HV := Lib.hid hv; have HV1 := Lib.hid h1; have HV2 := Lib.hid h2
  have HT := Lib.hid ht; clear ht
  clear hv h1 h2
  have HL1 : Hid ((limbs f.1.natAbs).length ≤ 24) := Lib.hid hg.vd.sm1
  have HL2 : Hid ((limbs f.2).length ≤ 24) := Lib.hid hg.vd.sm2
  clear hg
  have FB : Hid (∀ w, tInts.at w [.slice a n c] (limbs f.1.natAbs) → PowTab w → Calls Tryz.prog 65 #[.agg #[.bool (decide (f.1 < 0)), .slice a n c]] w fun e w' => e = .returned (.string (sB (fBig (encZ f.1)))) ∧ More w w') := Lib.hid (fun w hv ht => impl_formatBig (.slice a n c) (encZ f.1) w hv (Nat.le_trans HL1.out (by decide)) (limbs_isL _) ht)
  have FNN : Hid (∀ w, tInts.at w [.slice d m e] (limbs f.2) → PowTab w → Calls Tryz.prog 66 #[.slice d m e] w fun e w' => e = .returned (.string (sB (fN (limbs f.2)))) ∧ More w w') := Lib.hid (fun w hv ht => impl_formatNat (.slice d m e) (limbs f.2) w hv (Nat.le_trans HL2.out (by decide)) (limbs_isL _) ht)
  have HF1 : Hid ((fBig (encZ f.1)).length ≤ 620) := Lib.hid (fBig_len (limbs_isL _) (Nat.le_trans HL1.out (by decide)))
  have HF2 : Hid ((fN (limbs f.2)).length ≤ 610) := Lib.hid (fN_len (limbs_isL _) (Nat.le_trans HL2.out (by decide)))
  have hadd1 : ∀ w, (Op.stringOp .add (sB (fBig (encZ f.1))) ⟨#[47]⟩).run Tryz.prog w = .ok (.string (sB (fBig (encZ f.1) ++ [47]))) w := fun w => add_run _ _ [47] w (by have := HF1.out; simp; omega)
  have hadd2 : ∀ w, (Op.stringOp .add (sB (fBig (encZ f.1) ++ [47])) (sB (fN (limbs f.2)))).run Tryz.prog w = .ok (.string (sB (fBig (encZ f.1) ++ [47] ++ fN (limbs f.2)))) w := fun w => add_run _ _ _ w (by have := HF1.out; have := HF2.out; simp; omega)
  have HX : More (w.alloc (.cells #[.bool (decide (f.1 < 0)), .slice a n c, .slice d m e] 26)) (w.alloc (.cells #[.bool (decide (f.1 < 0)), .slice a n c, .slice d m e] 26)) := More.refl _
  have HB : ∀ w', More (w.alloc (.cells #[.bool (decide (f.1 < 0)), .slice a n c, .slice d m e] 26)) w' → w'.cell? ⟨w.heap.size, 0, none⟩ = some (.bool (decide (f.1 < 0))) ∧ w'.cell? ⟨w.heap.size, 1, none⟩ = some (.slice a n c) ∧ w'.cell? ⟨w.heap.size, 2, none⟩ = some (.slice d m e) ∧ (∀ j, w'.frozen? ⟨w.heap.size, j, none⟩ = false) := fun w' h => ⟨box_new (by simp) h 0, box_new (by simp) h 1, box_new (by simp) h 2, fun j => box_free (by simp) h j⟩
  rcases Bool.eq_false_or_eq_true (decide (f.2 = 1)) with hd | hd
  · have HD := Lib.hid hd; clear hd
    go_enter Tryz.func32, Tryz.ntmps32
    go_wp2_with (first | (go_at_call 64; refine (impl_isOne _ f.2 _ (Ty.at_more HV2.out mC)).mono ?_; rintro e9 w2 ⟨rfl, hb2⟩; rw [HD.out]; obtain ⟨p0, p1, p2, pf⟩ := HB w2 mC) | (go_at_call 65; refine (FB.out _ (Ty.at_more HV1.out mC) (HT.out.more mC)).mono ?_; rintro e9 w3 ⟨rfl, hb3⟩))
    go_ret
    exact ⟨by unfold fR; rw [if_pos (by simpa using HD.out)]; rfl, mC⟩
  · have HD := Lib.hid hd; clear hd
    go_enter Tryz.func32, Tryz.ntmps32
    go_wp2_with (first | (go_at_call 64; refine (impl_isOne _ f.2 _ (Ty.at_more HV2.out mC)).mono ?_; rintro e9 w2 ⟨rfl, hb2⟩; rw [HD.out]; obtain ⟨p0, p1, p2, pf⟩ := HB w2 mC))
    have R0 := fun (w' : World) (h : More w2 w') => HB w' (More.trans (show More _ w2 from mC) h)
    have R1 := fun (w' : World) (h : More w2 w') => (R0 w' h).1
    have R2 := fun (w' : World) (h : More w2 w') => (R0 w' h).2.1
    have R3 := fun (w' : World) (h : More w2 w') => (R0 w' h).2.2.1
    clear R0
    go_region_held3 (fun w' => More w2 w') (first | exact More.refl _ | exact mC) (first | (go_at_call 65; (with_reducible refine (FB.out _ (Ty.at_more HV1.out mC) (HT.out.more mC)).mono ?_); rintro e9 w3 ⟨rfl, hb3⟩) | (go_at_call 66; (with_reducible refine (FNN.out _ (Ty.at_more HV2.out mC) (HT.out.more mC)).mono ?_); rintro e9 w4 ⟨rfl, hb4⟩))
    all_goals
      go_wp2_with fail
      go_ret
      exact ⟨by unfold fR; rw [if_neg (by simpa using HD.out)]; first | rfl | (rw [show fBig (encZ f.1) ++ 47 :: fN (limbs f.2) = fBig (encZ f.1) ++ [47] ++ fN (limbs f.2) by rw [List.append_assoc]; rfl]; rfl), mC⟩
set_option maxRecDepth 8000 in
set_option maxHeartbeats 6400000 in
theorem spec_FormatRat (f : Fr) (u v : Value) (w : World) (hg : Good f) (hv : tRat.at w [.bool (decide (f.1 < 0)), u, v] (encR f)) :
    Calls Tryz.prog 43 #[.agg #[.bool (decide (f.1 < 0)), u, v]] w fun e w' => e = .returned (.string (sB (fR f))) ∧ More w w' := by
  obtain ⟨_, h1, h2⟩ := rat_split hv
  have h1 : tInts.at w [u] (limbs f.1.natAbs) := h1
  have h2 : tInts.at w [v] (limbs f.2) := h2
  obtain ⟨a, n, c, rfl⟩ := sh1 h1
  obtain ⟨d, m, e, rfl⟩ := sh1 h2
  have HV := Lib.hid hv; have HV1 := Lib.hid h1; have HV2 := Lib.hid h2
  clear hv h1 h2
  have HL1 : Hid ((limbs f.1.natAbs).length ≤ 24) := Lib.hid hg.vd.sm1
  have HL2 : Hid ((limbs f.2).length ≤ 24) := Lib.hid hg.vd.sm2
  have HNO : Hid (natOkB (limbs f.2) = true) := Lib.hid (by unfold natOkB; simpa using ⟨Nat.le_trans HL2.out (by decide), limbs_can f.2⟩)
  have HBO : Hid (bigOkB (encZ f.1) = true) := Lib.hid (by
    have h1 : natOkB (limbs f.1.natAbs) = true := by unfold natOkB; simpa using ⟨Nat.le_trans HL1.out (by decide), limbs_can f.1.natAbs⟩
    unfold bigOkB encZ
    rw [h1, Bool.true_and, Bool.not_eq_true', Bool.and_eq_false_iff]
    by_cases hneg : f.1 < 0
    · right
      rw [decide_eq_false_iff_not]
      show ¬ (limbs f.1.natAbs).length = 0
      rw [List.length_eq_zero_iff, limbs_nil]
      omega
    · left; simpa using hneg)
  have HRO : Hid (ratOkB (encR f) = true) := Lib.hid (ratOk_iff.2 ⟨f, hg, rfl⟩)
  have HW : Hid (wRat (encR f) ≤ 1048576) := Lib.hid (by unfold wRat wBigInt wIntS encR encZ; have h1 := HL1.out; have h2 := HL2.out; show (limbs f.1.natAbs).length + (limbs f.2).length ≤ 1048576; omega)
  clear hg
  have FB : Hid (∀ w, tInts.at w [.slice a n c] (limbs f.1.natAbs) → Calls Tryz.prog 82 #[.agg #[.bool (decide (f.1 < 0)), .slice a n c]] w fun e w' => e = .returned (.string (sB (fBig (encZ f.1)))) ∧ More w w') := Lib.hid (fun w hv => spec_FormatBigInt (.slice a n c) (encZ f.1) w hv HBO.out)
  have FNN : Hid (∀ w, tInts.at w [.slice d m e] (limbs f.2) → Calls Tryz.prog 83 #[.slice d m e] w fun e w' => e = .returned (.string (sB (fN (limbs f.2)))) ∧ More w w') := Lib.hid (fun w hv => spec_FormatNat (.slice d m e) (limbs f.2) w hv HNO.out)
  have HF1 : Hid ((fBig (encZ f.1)).length ≤ 620) := Lib.hid (fBig_len (limbs_isL _) (Nat.le_trans HL1.out (by decide)))
  have HF2 : Hid ((fN (limbs f.2)).length ≤ 610) := Lib.hid (fN_len (limbs_isL _) (Nat.le_trans HL2.out (by decide)))
  have hadd1 : ∀ w, (Op.stringOp .add (sB (fBig (encZ f.1))) ⟨#[47]⟩).run Tryz.prog w = .ok (.string (sB (fBig (encZ f.1) ++ [47]))) w := fun w => add_run _ _ [47] w (by have := HF1.out; simp; omega)
  have hadd2 : ∀ w, (Op.stringOp .add (sB (fBig (encZ f.1) ++ [47])) (sB (fN (limbs f.2)))).run Tryz.prog w = .ok (.string (sB (fBig (encZ f.1) ++ [47] ++ fN (limbs f.2)))) w := fun w => add_run _ _ _ w (by have := HF1.out; have := HF2.out; simp; omega)
  have HX : More (w.alloc (.cells #[.bool (decide (f.1 < 0)), .slice a n c, .slice d m e] 26)) (w.alloc (.cells #[.bool (decide (f.1 < 0)), .slice a n c, .slice d m e] 26)) := More.refl _
  have HB : ∀ w', More (w.alloc (.cells #[.bool (decide (f.1 < 0)), .slice a n c, .slice d m e] 26)) w' → w'.cell? ⟨w.heap.size, 0, none⟩ = some (.bool (decide (f.1 < 0))) ∧ w'.cell? ⟨w.heap.size, 1, none⟩ = some (.slice a n c) ∧ w'.cell? ⟨w.heap.size, 2, none⟩ = some (.slice d m e) ∧ (∀ j, w'.frozen? ⟨w.heap.size, j, none⟩ = false) := fun w' h => ⟨box_new (by simp) h 0, box_new (by simp) h 1, box_new (by simp) h 2, fun j => box_free (by simp) h j⟩
  rcases Bool.eq_false_or_eq_true (decide (f.2 = 1)) with hd | hd
  · have HD := Lib.hid hd; clear hd
    go_enter Tryz.func43, Tryz.ntmps43
    go_wp2_with (first | (go_at_call 80; refine (spec_RatOk _ _ _ (encR f) _ (Ty.at_more HV.out mC) HW.out).mono ?_; rintro e9 w1 ⟨rfl, hb1⟩; rw [HRO.out]; obtain ⟨q0, q1, q2, qf⟩ := HB w1 mC) | (go_at_call 81; refine (spec_l04One _ f.2 _ (Ty.at_more HV2.out mC)).mono ?_; rintro e9 w2 ⟨rfl, hb2⟩; rw [HD.out]; obtain ⟨p0, p1, p2, pf⟩ := HB w2 mC) | (go_at_call 82; refine (FB.out _ (Ty.at_more HV1.out mC)).mono ?_; rintro e9 w3 ⟨rfl, hb3⟩))
    go_ret
    exact ⟨by unfold fR; rw [if_pos (by simpa using HD.out)]; rfl, mC⟩
  · have HD := Lib.hid hd; clear hd
    go_enter Tryz.func43, Tryz.ntmps43
    go_wp2_with (first | (go_at_call 80; refine (spec_RatOk _ _ _ (encR f) _ (Ty.at_more HV.out mC) HW.out).mono ?_; rintro e9 w1 ⟨rfl, hb1⟩; rw [HRO.out]; obtain ⟨q0, q1, q2, qf⟩ := HB w1 mC) | (go_at_call 81; refine (spec_l04One _ f.2 _ (Ty.at_more HV2.out mC)).mono ?_; rintro e9 w2 ⟨rfl, hb2⟩; rw [HD.out]; obtain ⟨p0, p1, p2, pf⟩ := HB w2 mC))
    have R0 := fun (w' : World) (h : More w2 w') => HB w' (More.trans (show More _ w2 from mC) h)
    have R1 := fun (w' : World) (h : More w2 w') => (R0 w' h).1
    have R2 := fun (w' : World) (h : More w2 w') => (R0 w' h).2.1
    have R3 := fun (w' : World) (h : More w2 w') => (R0 w' h).2.2.1
    clear R0
    go_region_held3 (fun w' => More w2 w') (first | exact More.refl _ | exact mC) (first | (go_at_call 82; (with_reducible refine (FB.out _ (Ty.at_more HV1.out mC)).mono ?_); rintro e9 w3 ⟨rfl, hb3⟩) | (go_at_call 83; (with_reducible refine (FNN.out _ (Ty.at_more HV2.out mC)).mono ?_); rintro e9 w4 ⟨rfl, hb4⟩))
    all_goals
      go_wp2_with fail
      go_ret
      exact ⟨by unfold fR; rw [if_neg (by simpa using HD.out)]; first | rfl | (rw [show fBig (encZ f.1) ++ 47 :: fN (limbs f.2) = fBig (encZ f.1) ++ [47] ++ fN (limbs f.2) by rw [List.append_assoc]; rfl]; rfl), mC⟩
end Go.Proofs.YtnbefpfijaimjaaGreatDoor
