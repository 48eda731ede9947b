/- Natural numbers as texts: the reference's and the program's. -/
import Derived.Test.YtnbefpfijaimjaaGreatDoorStm
import Derived.Test.YtnbefpfijaimjaaGreatDoorNatG
namespace Go.Proofs.YtnbefpfijaimjaaGreatDoor
open Go.RowKit
def dI (x : Int) : List UInt8 := Lib.decDigits x.toNat
def fTail (l : List Int) : Nat → List UInt8
  | 0 => []
  | i + 1 => padZ (dI (l.getD i 0)) ++ fTail l i
def fN (l : List Int) : List UInt8 := if l.length = 0 then [48] else dI (l.getD (l.length - 1) 0) ++ fTail l (l.length - 1)
theorem dI_nat (m : Nat) : dI (m : Int) = Lib.decDigits m := rfl
theorem dec9 {m : Nat} (h : m < 1000000000) : (Lib.decDigits m).length ≤ 10 := dec_len (k := 9) (by omega)
theorem padZ_len {l : List UInt8} (h : l.length ≤ 10) : (padZ l).length ≤ 10 := by
  unfold padZ
  rw [List.length_append, List.length_replicate]
  omega
theorem PowTab.more {w w' : World} (h : PowTab w) (hm : More w w') : PowTab w' := by
  unfold PowTab Lib.TabIs World.var? at *
  cases hg : (Tryz.prog).globalNamed "internal/strconv.uint64pow10" with
  | none => rw [hg] at h; simp at h
  | some g =>
    rw [hg] at h
    simp only [Option.bind_some] at h ⊢
    by_cases hlt : g < w.heap.size
    · rw [hm.block g hlt]; exact h
    · rw [Array.getElem?_eq_none (by omega)] at h; simp at h
set_option maxRecDepth 8000 in
set_option maxHeartbeats 3200000 in
theorem spec_FormatNat (v : Value) (l : List Int) (w : World) (hv : tInts.at w [v] l) (hok : natOkB l = true) :
    Calls Tryz.prog 83 #[v] w fun e w' => e = .returned (.string (sB (fN l))) ∧ More w w' := by
  obtain ⟨hl60, hcan⟩ : l.length ≤ 60 ∧ Can l := by unfold natOkB at hok; simpa using hok
  obtain ⟨ao, cap, rfl⟩ := sl_len hv
  have HV := Lib.hid hv; have HOK := Lib.hid hok; have HL := Lib.hid hcan.1
  clear hv hok hcan
  obtain ⟨n, hn⟩ : ∃ n, n = l.length := ⟨_, rfl⟩
  rw [← hn] at HV hl60 ⊢
  have HN := Lib.hid hn; clear hn
  by_cases h0 : n = 0
  · subst h0
    go_enter Tryz.func83, Tryz.ntmps83
    go_wp2_with (go_at_call 112; refine (spec_NatOk _ l _ (Ty.at_more HV.out mC) (by rw [← HN.out]; omega)).mono ?_; rintro e w1 ⟨rfl, hb1⟩; rw [HOK.out])
    go_ret
    exact ⟨by unfold fN; rw [if_pos HN.out.symm]; rfl, mC⟩
  have hn0 : ((n : Int) == 0) = false := by simpa using h0
  obtain ⟨j, hj⟩ : ∃ j, n = j + 1 := ⟨n - 1, by omega⟩
  obtain ⟨b, off, x, rfl, hblt, hx, ox, c0⟩ := int_el HV.out (k := j) (by rw [← HN.out]; omega)
  obtain ⟨hx0, hx9⟩ := HL.out x (List.mem_of_getElem? hx)
  obtain ⟨m, rfl⟩ : ∃ m : Nat, x = (m : Int) := ⟨x.toNat, by omega⟩
  have HX := Lib.hid hx; clear hx ox
  have CX : ∀ w', More w w' → w'.cell? ⟨b, off + j, none⟩ = some (.int .i64 (m : Int)) := fun w' h => ((bcell h).1 _ _ hblt).trans c0
  have k1 : IntKind.i64.wrap ((n : Int) - 1) = (j : Int) := by rw [IntWalk.i64_in _ (by omega)]; omega
  have k2 : IntKind.i64.wrap ((n : Int) - 2) = (j : Int) - 1 := by rw [IntWalk.i64_in _ (by omega)]; omega
  have i0 : (0 : Int) ≤ (j : Int) := by omega
  have i1 : (j : Int) < (n : Int) := by omega
  have HJ := Lib.hid hj; clear hj h0
  go_enter Tryz.func83, Tryz.ntmps83
  go_wp2_with (first | (go_at_call 112; refine (spec_NatOk _ l _ (Ty.at_more HV.out mC) (by rw [← HN.out]; omega)).mono ?_; rintro e w1 ⟨rfl, hb1⟩; rw [HOK.out]; have cx1 := CX w1 mC; clear CX c0) | (go_at_call 114; refine (spec_FormatInt m _ (by omega)).mono ?_; rintro e w2 ⟨rfl, hb2⟩))
  go_loopw [3, 4] (fun vs vi wr => ∃ (k : Nat) (t : List UInt8) (I : Int), vs = .string (sB t) ∧ vi = .int .i64 I ∧ I = (k : Int) - 1 ∧ k ≤ j ∧ More w wr ∧ Hid (t ++ fTail l k = fN l) ∧ Hid (t.length + 10 * k ≤ 610)) (fun _ vi _ => (intOf vi + 1).toNat)
  case atStart => exact ⟨j, Lib.decDigits m, _, rfl, rfl, rfl, Nat.le_refl _, mC, Lib.hid (by unfold fN; rw [← HN.out, HJ.out, if_neg (by omega), Nat.add_sub_cancel, List.getD_eq_getElem?_getD, HX.out]; rfl), Lib.hid (by have := dec9 (m := m) (by omega); omega)⟩
  case round =>
    obtain ⟨k, t, I, rfl, rfl, hI, hk, hm, HT, HTL⟩ := hrel
    by_cases hpos : 0 < k
    · obtain ⟨i, rfl⟩ : ∃ i, k = i + 1 := ⟨k - 1, by omega⟩
      obtain rfl : I = (i : Int) := by omega
      clear hI hpos
      obtain ⟨b', off', y, e9, hblt', hy, oy, d0⟩ := int_el (Ty.at_more HV.out hm) (k := i) (by rw [← HN.out, HJ.out]; omega)
      cases e9
      obtain ⟨hy0, hy9⟩ := HL.out y (List.mem_of_getElem? hy)
      obtain ⟨q, rfl⟩ : ∃ q : Nat, y = (q : Int) := ⟨y.toNat, by omega⟩
      have HY := Lib.hid hy; clear hy oy
      have l0 : (0 : Int) ≤ (i : Int) := by omega
      have l1 : (i : Int) < (n : Int) := by have := HJ.out; omega
      have k3 : IntKind.i64.wrap ((i : Int) - 1) = (i : Int) - 1 := IntWalk.i64_in _ (by omega)
      have HQL : Hid ((Lib.decDigits q).length ≤ 10) := Lib.hid (dec9 (by omega))
      have hadd : ∀ w, (Op.stringOp .add (sB t) (sB (padZ (Lib.decDigits q)))).run Tryz.prog w = .ok (.string (sB (t ++ padZ (Lib.decDigits q)))) w := fun w => add_run _ _ _ w (by have := padZ_len HQL.out; have := HTL.out; omega)
      go_wp2_with (first | (go_at_call 114; refine (spec_FormatInt q _ (by omega)).mono ?_; rintro e w3 ⟨rfl, hb3⟩) | (go_at_call 115; refine (spec_PadZeros _ _ (by have := HQL.out; omega)).mono ?_; rintro e w4 ⟨rfl, hb4⟩))
      go_roundw
      case rel => exact ⟨i, t ++ padZ (Lib.decDigits q), _, rfl, rfl, rfl, by omega, mC, Lib.hid (by
        rw [← HT.out, List.append_assoc]
        congr 1
        show _ = padZ (dI (l.getD i 0)) ++ fTail l i
        rw [List.getD_eq_getElem?_getD, HY.out]
        rfl), Lib.hid (by have := padZ_len HQL.out; have := HTL.out; rw [List.length_append]; omega)⟩
      case measure => simp [intOf] <;> omega
    · have hneg : ¬ (0 : Int) ≤ I := by omega
      clear hI
      go_wp2_with fail
      go_ret
      refine ⟨?_, hm⟩
      have h := HT.out
      rw [show k = 0 by omega] at h
      rw [← h]
      simp [fTail]
abbrev Bld (B b : Nat) (t : List UInt8) (w : World) : Prop := Lib.IsBuilder 111 5 B b (Lib.byteCells t) w
theorem Bld.more {B b : Nat} {t : List UInt8} {w w' : World} (h : Bld B b t w) (hm : More w w') : Bld B b t w' := by
  have key : ∀ p, Lib.BuilderAt 111 5 B b p (Lib.byteCells t) w → Lib.BuilderAt 111 5 B b p (Lib.byteCells t) w' := by
    rintro p h
    have hlt := h.lt
    obtain ⟨h1, v, h2, h3, h4⟩ := h
    exact ⟨h1, v, (hm.block b hlt).trans h2, ownsRow_more h3 hm, h4⟩
  rcases h with h | h
  · exact .inl (key _ h)
  · exact .inr (key _ h)
theorem below_more {W w w' : World} (h : More W w) (hb : Below W.heap.size w w') : More W w' := More.of_below (Below.trans h.out hb)
theorem str_cells (m : List UInt8) : Lib.strCells (sB m) = Lib.byteCells m := by
  unfold Lib.strCells Lib.byteCells
  rw [sB_data]
theorem str_Write (W : World) (b : Nat) (t m : List UInt8) (w : World) (h : Hid (Bld W.heap.size b t w)) (hlen : t.length + m.length ≤ 1048576) (hW : More W w) :
    Calls Tryz.prog 96 #[.pointer (some ⟨b, 0, none⟩), .string (sB m)] w fun e w' => e = .returned (.tuple #[.int .i64 (m.length : Int), .nilIface]) ∧ Hid (Bld W.heap.size b (t ++ m) w') ∧ More W w' := by
  have h1 := Any.Builder_WriteString (P := Tryz.prog) (ρ := laysRepeat_ren) { laysRepeat with } laysX W.heap.size b (Lib.byteCells t) (sB m) w h.out (by rw [sB_size]; unfold Lib.byteCells; rw [List.length_map]; omega) hW.size
  rw [sB_size, str_cells] at h1
  refine h1.mono ?_
  rintro e w' ⟨rfl, h2, h3⟩
  refine ⟨rfl, Lib.hid (.inr ?_), below_more hW h3⟩
  have e9 : Lib.byteCells t ++ Lib.byteCells m = Lib.byteCells (t ++ m) := by unfold Lib.byteCells; rw [List.map_append]
  rw [e9] at h2
  exact h2
theorem str_Built (W : World) (b : Nat) (t : List UInt8) (w : World) (h : Hid (Bld W.heap.size b t w)) (hW : More W w) :
    Calls Tryz.prog 98 #[.pointer (some ⟨b, 0, none⟩)] w fun e w' => e = .returned (.string (sB t)) ∧ More W w' := by
  have h1 := Any.Builder_String_any (P := Tryz.prog) (ρ := laysRepeat_ren) { laysRepeat with } laysX W.heap.size b t w h.out hW.size
  refine h1.mono ?_
  rintro e w' ⟨rfl, h3⟩
  exact ⟨rfl, below_more hW h3⟩
theorem impl_FormatInt (n : Nat) (w : World) (h : n ≤ 1000000000) (ht : PowTab w) :
    Calls Tryz.prog 70 #[.int .i64 (n : Int)] w fun e w' => e = .returned (.string (sB (Lib.decDigits n))) ∧ More w w' := by
  have HT := Lib.hid ht; clear ht
  go_enter Tryz.func70, Tryz.ntmps70
  go_wp2_with (go_at_call 68; refine (str_Itoa n _ h (HT.out.more mC)).mono ?_; rintro e w1 ⟨rfl, hb1⟩)
  go_ret
  exact ⟨rfl, mC⟩
set_option maxRecDepth 8000 in
set_option maxHeartbeats 3200000 in
theorem impl_formatNat (v : Value) (l : List Int) (w : World) (hv : tInts.at w [v] l) (hl60 : l.length ≤ 60) (hL : IsL l) (ht : PowTab w) :
    Calls Tryz.prog 66 #[v] w fun e w' => e = .returned (.string (sB (fN l))) ∧ More w w' := by
  obtain ⟨ao, cap, rfl⟩ := sl_len hv
  have HV := Lib.hid hv; have HL := Lib.hid hL; have HT := Lib.hid ht
  clear hv hL ht
  obtain ⟨n, hn⟩ : ∃ n, n = l.length := ⟨_, rfl⟩
  rw [← hn] at HV hl60 ⊢
  have HN := Lib.hid hn; clear hn
  by_cases h0 : n = 0
  · subst h0
    go_enter Tryz.func66, Tryz.ntmps66
    go_wp2_with fail
    go_ret
    exact ⟨by unfold fN; rw [if_pos HN.out.symm]; rfl, mC⟩
  have hn0 : ((n : Int) == 0) = false := by simpa using h0
  obtain ⟨j, hj⟩ : ∃ j, n = j + 1 := ⟨n - 1, by omega⟩
  obtain ⟨b, off, x, rfl, hblt, hx, ox, c0⟩ := int_el HV.out (k := j) (by rw [← HN.out]; omega)
  obtain ⟨hx0, hx9⟩ := HL.out x (List.mem_of_getElem? hx)
  obtain ⟨m, rfl⟩ : ∃ m : Nat, x = (m : Int) := ⟨x.toNat, by omega⟩
  have HX := Lib.hid hx; clear hx ox
  have k1 : IntKind.i64.wrap ((n : Int) - 1) = (j : Int) := by rw [IntWalk.i64_in _ (by omega)]; omega
  have k2 : IntKind.i64.wrap ((n : Int) - 2) = (j : Int) - 1 := by rw [IntWalk.i64_in _ (by omega)]; omega
  have i0 : (0 : Int) ≤ (j : Int) := by omega
  have i1 : (j : Int) < (n : Int) := by omega
  have HJ := Lib.hid hj; clear hj h0
  have HB0 : Hid (Bld w.heap.size w.heap.size [] (w.alloc (.cells #[.pointer none, .slice none 0 0] 111))) := Lib.hid (Lib.fresh_isBuilder _ _ w)
  have HML : Hid ((Lib.decDigits m).length ≤ 10) := Lib.hid (dec9 (by omega))
  go_enter Tryz.func66, Tryz.ntmps66
  go_wp2_with (first | (go_at_call 70; refine (impl_FormatInt m _ (by omega) (HT.out.more mC)).mono ?_; rintro e w2 ⟨rfl, hb2⟩; have HB2 : Hid (Bld w.heap.size w.heap.size [] w2) := Lib.hid (HB0.out.more hb2)) | (go_at_call 96; refine (str_Write w w.heap.size [] (Lib.decDigits m) _ HB2 (by have := HML.out; simp; omega) mC).mono ?_; rintro e w3 ⟨rfl, HB3, hb3⟩))
  go_loopw [4] (fun vi wr => ∃ (k : Nat) (t : List UInt8) (I : Int), vi = .int .i64 I ∧ I = (k : Int) - 1 ∧ k ≤ j ∧ More w wr ∧ Hid (Bld w.heap.size w.heap.size t wr) ∧ Hid (t ++ fTail l k = fN l) ∧ Hid (t.length + 10 * k ≤ 610)) (fun vi _ => (intOf vi + 1).toNat)
  case atStart => exact ⟨j, Lib.decDigits m, _, rfl, rfl, Nat.le_refl _, mC, HB3, Lib.hid (by unfold fN; rw [← HN.out, HJ.out, if_neg (by omega), Nat.add_sub_cancel, List.getD_eq_getElem?_getD, HX.out]; rfl), Lib.hid (by have := HML.out; omega)⟩
  case round =>
    obtain ⟨k, t, I, rfl, hI, hk, hm, HB, HTT, HTL⟩ := hrel
    by_cases hpos : 0 < k
    · obtain ⟨i, rfl⟩ : ∃ i, k = i + 1 := ⟨k - 1, by omega⟩
      obtain rfl : I = (i : Int) := by omega
      clear hI hpos
      obtain ⟨b', off', y, e9, hblt', hy, oy, d0⟩ := int_el (Ty.at_more HV.out hm) (k := i) (by rw [← HN.out, HJ.out]; omega)
      cases e9
      obtain ⟨hy0, hy9⟩ := HL.out y (List.mem_of_getElem? hy)
      obtain ⟨q, rfl⟩ : ∃ q : Nat, y = (q : Int) := ⟨y.toNat, by omega⟩
      have HY := Lib.hid hy; clear hy oy
      have l0 : (0 : Int) ≤ (i : Int) := by omega
      have l1 : (i : Int) < (n : Int) := by have := HJ.out; omega
      have k3 : IntKind.i64.wrap ((i : Int) - 1) = (i : Int) - 1 := IntWalk.i64_in _ (by omega)
      have HQL : Hid ((Lib.decDigits q).length ≤ 10) := Lib.hid (dec9 (by omega))
      have HMR := Lib.hid hm
      go_wp2_with (first | (go_at_call 70; refine (impl_FormatInt q _ (by omega) (HT.out.more mC)).mono ?_; rintro e w4 ⟨rfl, hb4⟩) | (go_at_call 97; refine (impl_PadZeros _ _ (by have := HQL.out; omega)).mono ?_; rintro e w5 ⟨rfl, hb5⟩; have HB5 : Hid (Bld w.heap.size w.heap.size t w5) := Lib.hid (HB.out.more mC)) | (go_at_call 96; refine (str_Write w w.heap.size t (padZ (Lib.decDigits q)) _ HB5 (by have := padZ_len HQL.out; have := HTL.out; omega) (More.trans HMR.out mC)).mono ?_; rintro e w6 ⟨rfl, HB6, hb6⟩))
      go_roundw
      case rel => exact ⟨i, t ++ padZ (Lib.decDigits q), _, rfl, rfl, by omega, hb6, HB6, Lib.hid (by
        rw [← HTT.out, List.append_assoc]
        congr 1
        show _ = padZ (dI (l.getD i 0)) ++ fTail l i
        rw [List.getD_eq_getElem?_getD, HY.out]
        rfl), Lib.hid (by have := padZ_len HQL.out; have := HTL.out; rw [List.length_append]; omega)⟩
      case measure => simp [intOf] <;> omega
    · have hneg : ¬ (0 : Int) ≤ I := by omega
      clear hI
      have HMR := Lib.hid hm
      go_wp2_with (go_at_call 98; refine (str_Built w w.heap.size t _ HB HMR.out).mono ?_; rintro e w7 ⟨rfl, hb7⟩)
      go_ret
      refine ⟨?_, mC⟩
      have h := HTT.out
      rw [show k = 0 by omega] at h
      rw [← h]
      simp [fTail]
end Go.Proofs.YtnbefpfijaimjaaGreatDoor
