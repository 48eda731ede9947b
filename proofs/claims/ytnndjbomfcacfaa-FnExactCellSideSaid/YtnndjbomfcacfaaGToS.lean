/- Several texts laid together; each has its own word at its head. -/
import Derived.Test.YtnndjbomfcacfaaGBase
import Derived.Test.YtnndjbomfcacfaaGVec
import Derived.Deep.RegionHeld3
import Derived.Test.YtnndjbomfcacfaaGHelp
import Derived.Deep.DeepCutAuto
import Derived.Deep.MidRow
import Derived.Test.YtnndjbomfcacfaaLdm
/- toBox: the copy of a value of this kind in new memory. -/

namespace Go.Proofs.Ytnndjbomfcacfaa
open Go.RowKit

end Go.Proofs.Ytnndjbomfcacfaa
/- toVecSS: the copy of a value of this kind in new memory. -/
namespace Go.Proofs.Ytnndjbomfcacfaa
open Go.RowKit
theorem infoVecS_ : (Try.prog.info? 31).map (fun i => (i.zero, i.size, i.bytes)) = some (some (.slice none 0 0), 1, 24) := by kernel_rfl
set_option maxHeartbeats 3200000 in
theorem laws_toVecSS (v : Value) (l : List (List QV)) (w : World) (hv : tVecSS.at w [v] l) (hw : wVecSS l ≤ 1048576) :
    Calls Try.prog 31 #[v] w fun e w' => ∃ v', e = .returned v' ∧ More w w' ∧ tVecSS.fresh w.heap.size w' [v'] l := by
  obtain ⟨ao, cap, rfl⟩ := sl_len hv
  have HV := Lib.hid hv; clear hv
  have HW : Hid (l.length + wsum wVecS l ≤ 1048576) := Lib.hid hw
  have hl : l.length ≤ 1048576 := by have := HW.out; omega
  clear hw
  obtain ⟨n, hn⟩ : ∃ n, n = l.length := ⟨_, rfl⟩
  rw [← hn] at HV hl ⊢
  have HN := Lib.hid hn; clear hn
  obtain ⟨i0, hi, hz0, hz1, hz2⟩ := info_parts infoVecS_
  go_enter Try.func31, Try.ntmps31
  go_wp2_with (at_make; refine wpList_make_full _ rfl _ _ 32 rfl w.heap.size 31 i0 (.slice none 0 0) 1 Try.underlying32 hi hz0 hz1 _ _ _ _ n rfl rfl rfl rfl ?c1 ?c2 ?c3 ?_)
  case c1 => rw [hz2]; omega
  case c2 => unfold maxLen; omega
  case c3 => exact Nat.le_refl _
  intro w1 hown hgr
  have hb1 : More w w1 := Turns.more ((Turns.refl _ _).grown hgr (by simp))
  have HR : Hid (RowK tVecs w.heap.size 31 w1 w.heap.size n n l 0) := Lib.hid (RowK.start hown)
  clear hown hgr
  go_wp2_with fail
  go_loopw [4] (fun i wr => ∃ k : Nat, k ≤ n ∧ i = .int .i64 k ∧ More w wr ∧ Hid (RowK tVecs w.heap.size 31 wr w.heap.size n n l k)) (fun i _ => n - (intOf i).toNat)
  case atStart => exact ⟨0, Nat.zero_le _, rfl, hb1, HR⟩
  case round =>
    obtain ⟨k, hk, rfl, hm, HK⟩ := hrel
    clear HR hb1
    by_cases hlt : k < n
    · obtain ⟨b, off, x, a0, n0, c0, rfl, hblt, hx, hat, p0⟩ := el_VecS (Ty.at_more HV.out hm) (k := k) (by rw [← HN.out]; exact hlt)
      have HX := Lib.hid hx; have HA := Lib.hid hat; clear hx hat
      go_wp2_with fail
      refine (laws_toVecS _ x _ HA.out (show wVecS x ≤ 1048576 from (by have := wsum_el (f := wVecS) HX.out; have := HW.out; omega))).mono ?_
      rintro e w2 ⟨r2, rfl, hb2, g2⟩
      · obtain ⟨ya0, yn0, yc0, er2⟩ := sh_slice (Ty.fresh_at g2); simp only [List.cons.injEq, and_true] at er2; subst er2
        have HF := Lib.hid g2; clear g2
        have HK2 := RowK.more HK.out hb2
        obtain ⟨⟨u0, q0⟩, f0⟩ := HK2.cells (k) (by show _ < n * 1; omega)
        have HKK := Lib.hid HK2; clear HK2
        go_wp2_with fail
        go_roundw
        case rel => exact ⟨k + 1, by omega, by go_num, Turns.more ((Turns.via hb2 (hm.turns [])).setCell (.inr (Nat.le_refl _)) _), Lib.hid (by have h := RowK.step HK.out hb2 hlt HX.out HF.out; rw [show k * tVecs.size = k from Nat.mul_one k] at h; exact h)⟩
        case measure => simp [intOf]; omega
    · go_wp2_with fail
      go_ret
      obtain rfl : k = n := by omega
      exact ⟨_, rfl, hm, HK.out.fresh HN.out⟩
end Go.Proofs.Ytnndjbomfcacfaa
/- toCell: the copy of a value of this kind in new memory. -/
namespace Go.Proofs.Ytnndjbomfcacfaa
open Go.RowKit

theorem turns_setCells {bs : List Nat} {a : World} {b : Nat} : ∀ (l : List Value) (w : World) (o : Nat), Turns bs a w → b ∈ bs → Turns bs a (w.setCells b o l)
  | [], _, _, h, _ => h
  | _ :: l, _, o, h, hb => turns_setCells l _ (o + 1) (h.setCell (.inl hb) _) hb
set_option maxHeartbeats 3200000 in
theorem laws_toCell (cs : List Value) (x : QCell) (w : World) (hv : tCell.at w cs x) (hw : wCell x ≤ 1048576) :
    Calls Try.prog 19 #[.agg cs.toArray] w fun e w' => ∃ cs' : List Value, e = .returned (.agg cs'.toArray) ∧ More w w' ∧ tCell.fresh w.heap.size w' cs' x := by
  have HW := Lib.hid hw; clear hw
  obtain ⟨k0, d0, rfl, f0, e0⟩ := at_prod hv
  obtain ⟨k1, d1, rfl, f1, e1⟩ := at_prod e0
  obtain ⟨k2, d2, rfl, f2, e2⟩ := at_prod e1
  obtain ⟨k3, d3, rfl, f3, e3⟩ := at_prod e2
  obtain ⟨k4, d4, rfl, f4, e4⟩ := at_prod e3
  have f5 := e4; clear e4
  obtain ⟨z0a1, z0n1, z0c1, z0a2, z0n2, z0c2, rfl⟩ := sh_Rat f0
  have F0 := Lib.hid f0; clear f0
  obtain ⟨z1a1, z1n1, z1c1, z1a2, z1n2, z1c2, rfl⟩ := sh_Rat f1
  have F1 := Lib.hid f1; clear f1
  obtain ⟨z2a1, z2n1, z2c1, z2a2, z2n2, z2c2, rfl⟩ := sh_Rat f2
  have F2 := Lib.hid f2; clear f2
  obtain ⟨z3a1, z3n1, z3c1, z3a2, z3n2, z3c2, rfl⟩ := sh_Rat f3
  have F3 := Lib.hid f3; clear f3
  obtain ⟨z4a1, z4n1, z4c1, z4a2, z4n2, z4c2, rfl⟩ := sh_Rat f4
  have F4 := Lib.hid f4; clear f4
  obtain ⟨z5a1, z5n1, z5c1, z5a2, z5n2, z5c2, rfl⟩ := sh_Rat f5
  have F5 := Lib.hid f5; clear f5
  clear hv e0 e1 e2 e3
  show Calls Try.prog 19 #[.agg #[.bool x.1.1.1, .slice z0a1 z0n1 z0c1, .slice z0a2 z0n2 z0c2, .bool x.2.1.1.1, .slice z1a1 z1n1 z1c1, .slice z1a2 z1n2 z1c2, .bool x.2.2.1.1.1, .slice z2a1 z2n1 z2c1, .slice z2a2 z2n2 z2c2, .bool x.2.2.2.1.1.1, .slice z3a1 z3n1 z3c1, .slice z3a2 z3n2 z3c2, .bool x.2.2.2.2.1.1.1, .slice z4a1 z4n1 z4c1, .slice z4a2 z4n2 z4c2, .bool x.2.2.2.2.2.1.1, .slice z5a1 z5n1 z5c1, .slice z5a2 z5n2 z5c2]] w _
  go_enter Try.func19, Try.ntmps19
  go_wp2_with fail
  refine (laws_toRat _ x.1 _ (Ty.at_more F0.out mC2) (by have := HW.out; unfold wCell at this; omega)).mono ?_
  rintro e w1 ⟨r1, rfl, hb1, g1⟩
  obtain ⟨y1a1, y1n1, y1c1, y1a2, y1n2, y1c2, rfl⟩ := sh_Rat (Ty.fresh_at g1)
  have G1 := Lib.hid g1; clear g1
  obtain ⟨hc1, hf1⟩ := bcell hb1
  have hs1_0 : w.heap.size < w1.heap.size := by have := hb1.size; (try simp at this); first | done | omega
  have hs1_1 : w.heap.size + 1 < w1.heap.size := by have := hb1.size; (try simp at this); first | done | omega
  have hs1_2 : w.heap.size + 2 < w1.heap.size := by have := hb1.size; (try simp at this); first | done | omega
  go_wp2_with fail
  refine (laws_toRat _ x.2.1 _ (Ty.at_more F1.out mC2) (by have := HW.out; unfold wCell at this; omega)).mono ?_
  rintro e w2 ⟨r2, rfl, hb2, g2⟩
  obtain ⟨y2a1, y2n1, y2c1, y2a2, y2n2, y2c2, rfl⟩ := sh_Rat (Ty.fresh_at g2)
  have G2 := Lib.hid g2; clear g2
  obtain ⟨hc2, hf2⟩ := bcell hb2
  have hs2_0 : w.heap.size < w2.heap.size := by have := hb2.size; (try simp at this); first | done | omega
  have hs2_1 : w.heap.size + 1 < w2.heap.size := by have := hb2.size; (try simp at this); first | done | omega
  have hs2_2 : w.heap.size + 2 < w2.heap.size := by have := hb2.size; (try simp at this); first | done | omega
  have hz2 : w1.heap.size ≤ w2.heap.size := by have := hb2.size; (try simp at this); omega
  go_wp2_with fail
  refine (laws_toRat _ x.2.2.1 _ (Ty.at_more F2.out mC2) (by have := HW.out; unfold wCell at this; omega)).mono ?_
  rintro e w3 ⟨r3, rfl, hb3, g3⟩
  obtain ⟨y3a1, y3n1, y3c1, y3a2, y3n2, y3c2, rfl⟩ := sh_Rat (Ty.fresh_at g3)
  have G3 := Lib.hid g3; clear g3
  obtain ⟨hc3, hf3⟩ := bcell hb3
  have hs3_0 : w.heap.size < w3.heap.size := by have := hb3.size; (try simp at this); first | done | omega
  have hs3_1 : w.heap.size + 1 < w3.heap.size := by have := hb3.size; (try simp at this); first | done | omega
  have hs3_2 : w.heap.size + 2 < w3.heap.size := by have := hb3.size; (try simp at this); first | done | omega
  have hz3 : w2.heap.size ≤ w3.heap.size := by have := hb3.size; (try simp at this); omega
  go_upto_region 5 with fail
  go_cut [] (fun wx => ∃ (y4a1 : Option Addr) (y4n1 y4c1 : Nat) (y4a2 : Option Addr) (y4n2 y4c2 : Nat), Turns [w.heap.size + 1, w.heap.size + 2] w3 wx ∧ (wx.cell? ⟨w.heap.size + 1 + 1, 0, none⟩ = some (.bool x.1.1.1) ∧ wx.cell? ⟨w.heap.size + 1 + 1, 1, none⟩ = some (.slice y1a1 y1n1 y1c1) ∧ wx.cell? ⟨w.heap.size + 1 + 1, 2, none⟩ = some (.slice y1a2 y1n2 y1c2) ∧ wx.cell? ⟨w.heap.size + 1 + 1, 3, none⟩ = some (.bool x.2.1.1.1) ∧ wx.cell? ⟨w.heap.size + 1 + 1, 4, none⟩ = some (.slice y2a1 y2n1 y2c1) ∧ wx.cell? ⟨w.heap.size + 1 + 1, 5, none⟩ = some (.slice y2a2 y2n2 y2c2) ∧ wx.cell? ⟨w.heap.size + 1 + 1, 6, none⟩ = some (.bool x.2.2.1.1.1) ∧ wx.cell? ⟨w.heap.size + 1 + 1, 7, none⟩ = some (.slice y3a1 y3n1 y3c1) ∧ wx.cell? ⟨w.heap.size + 1 + 1, 8, none⟩ = some (.slice y3a2 y3n2 y3c2) ∧ wx.cell? ⟨w.heap.size + 1 + 1, 9, none⟩ = some (.bool x.2.2.2.1.1.1) ∧ wx.cell? ⟨w.heap.size + 1 + 1, 10, none⟩ = some (.slice y4a1 y4n1 y4c1) ∧ wx.cell? ⟨w.heap.size + 1 + 1, 11, none⟩ = some (.slice y4a2 y4n2 y4c2) ∧ wx.cell? ⟨w.heap.size + 1 + 1, 12, none⟩ = some (.bool false) ∧ wx.cell? ⟨w.heap.size + 1 + 1, 13, none⟩ = some (.slice none 0 0) ∧ wx.cell? ⟨w.heap.size + 1 + 1, 14, none⟩ = some (.slice none 0 0) ∧ wx.cell? ⟨w.heap.size + 1 + 1, 15, none⟩ = some (.bool false) ∧ wx.cell? ⟨w.heap.size + 1 + 1, 16, none⟩ = some (.slice none 0 0) ∧ wx.cell? ⟨w.heap.size + 1 + 1, 17, none⟩ = some (.slice none 0 0)) ∧ (∀ j, wx.frozen? ⟨w.heap.size + 1 + 1, j, none⟩ = false) ∧ (wx.cell? ⟨w.heap.size, 12, none⟩ = some (.bool x.2.2.2.2.1.1.1) ∧ wx.cell? ⟨w.heap.size, 13, none⟩ = some (.slice z4a1 z4n1 z4c1) ∧ wx.cell? ⟨w.heap.size, 14, none⟩ = some (.slice z4a2 z4n2 z4c2) ∧ wx.cell? ⟨w.heap.size, 15, none⟩ = some (.bool x.2.2.2.2.2.1.1) ∧ wx.cell? ⟨w.heap.size, 16, none⟩ = some (.slice z5a1 z5n1 z5c1) ∧ wx.cell? ⟨w.heap.size, 17, none⟩ = some (.slice z5a2 z5n2 z5c2)) ∧ (wx.cell? ⟨w.heap.size + 1, 0, none⟩ = some (.bool false) ∧ wx.cell? ⟨w.heap.size + 1, 1, none⟩ = some (.slice none 0 0) ∧ wx.cell? ⟨w.heap.size + 1, 2, none⟩ = some (.slice none 0 0) ∧ wx.cell? ⟨w.heap.size + 1, 3, none⟩ = some (.bool false) ∧ wx.cell? ⟨w.heap.size + 1, 4, none⟩ = some (.slice none 0 0) ∧ wx.cell? ⟨w.heap.size + 1, 5, none⟩ = some (.slice none 0 0) ∧ wx.cell? ⟨w.heap.size + 1, 6, none⟩ = some (.bool false) ∧ wx.cell? ⟨w.heap.size + 1, 7, none⟩ = some (.slice none 0 0) ∧ wx.cell? ⟨w.heap.size + 1, 8, none⟩ = some (.slice none 0 0) ∧ wx.cell? ⟨w.heap.size + 1, 9, none⟩ = some (.bool false) ∧ wx.cell? ⟨w.heap.size + 1, 10, none⟩ = some (.slice none 0 0) ∧ wx.cell? ⟨w.heap.size + 1, 11, none⟩ = some (.slice none 0 0) ∧ wx.cell? ⟨w.heap.size + 1, 12, none⟩ = some (.bool false) ∧ wx.cell? ⟨w.heap.size + 1, 13, none⟩ = some (.slice none 0 0) ∧ wx.cell? ⟨w.heap.size + 1, 14, none⟩ = some (.slice none 0 0) ∧ wx.cell? ⟨w.heap.size + 1, 15, none⟩ = some (.bool false) ∧ wx.cell? ⟨w.heap.size + 1, 16, none⟩ = some (.slice none 0 0) ∧ wx.cell? ⟨w.heap.size + 1, 17, none⟩ = some (.slice none 0 0)) ∧ (∀ j, wx.frozen? ⟨w.heap.size + 1, j, none⟩ = false) ∧ Hid (tRat.fresh w3.heap.size wx [.bool x.2.2.2.1.1.1, .slice y4a1 y4n1 y4c1, .slice y4a2 y4n2 y4c2] x.2.2.2.1))
  case first =>
    go_wp2_with fail
    refine (laws_toRat _ x.2.2.2.1 _ (Ty.at_more F3.out mC2) (by have := HW.out; unfold wCell at this; omega)).mono ?_
    rintro e w4 ⟨r4, rfl, hb4, g4⟩
    obtain ⟨y4a1, y4n1, y4c1, y4a2, y4n2, y4c2, rfl⟩ := sh_Rat (Ty.fresh_at g4)
    have G4 := Lib.hid g4; clear g4
    obtain ⟨hc4, hf4⟩ := bcell hb4
    have hs4_0 : w.heap.size < w4.heap.size := by have := hb4.size; (try simp at this); first | done | omega
    have hs4_1 : w.heap.size + 1 < w4.heap.size := by have := hb4.size; (try simp at this); first | done | omega
    have hs4_2 : w.heap.size + 2 < w4.heap.size := by have := hb4.size; (try simp at this); first | done | omega
    have hz4 : w3.heap.size ≤ w4.heap.size := by have := hb4.size; (try simp at this); omega
    go_wp2_with fail
    go_meet
    refine ⟨y4a1, y4n1, y4c1, y4a2, y4n2, y4c2, tC, ⟨?_, ?_, ?_, ?_, ?_, ?_, ?_, ?_, ?_, ?_, ?_, ?_, ?_, ?_, ?_, ?_, ?_, ?_⟩, ?_, ⟨?_, ?_, ?_, ?_, ?_, ?_⟩, ⟨?_, ?_, ?_, ?_, ?_, ?_, ?_, ?_, ?_, ?_, ?_, ?_, ?_, ?_, ?_, ?_, ?_, ?_⟩, ?_, ?_⟩
    all_goals (first | (simp [*]; done) | (go_simp; done) | skip)
    exact Lib.hid (Ty.fresh_turns (bs := [w.heap.size + 1, w.heap.size + 2]) (Ty.fresh_mono G4.out (B' := w3.heap.size) (by simp)) tC (fun k hk => by simp only [List.mem_cons, List.not_mem_nil, or_false] at hk; omega))
  case rest =>
  rename World => wd
  obtain ⟨y4a1, y4n1, y4c1, y4a2, y4n2, y4c2, tD, ⟨o0, o1, o2, o3, o4, o5, o6, o7, o8, o9, o10, o11, o12, o13, o14, o15, o16, o17⟩, ofr, ⟨p0, p1, p2, p3, p4, p5⟩, ⟨r0, r1, r2, r3, r4, r5, r6, r7, r8, r9, r10, r11, r12, r13, r14, r15, r16, r17⟩, rfr, G4⟩ := hcut
  have hz4 : w3.heap.size ≤ wd.heap.size := tD.size
  have hsd_0 : w.heap.size < wd.heap.size := by omega
  have hsd_1 : w.heap.size + 1 < wd.heap.size := by omega
  have hsd_2 : w.heap.size + 2 < wd.heap.size := by omega
  have hMd : More w wd := More.turn (mC2 : More w w3) tD (fun k hk => by simp only [List.mem_cons, List.not_mem_nil, or_false] at hk; omega)
  have t13 : Turns [w.heap.size + 1, w.heap.size + 2] w1 w3 := tC
  have t23 : Turns [w.heap.size + 1, w.heap.size + 2] w2 w3 := tC
  clear hb1 hb2 hb3 hc1 hc2 hc3 hf1 hf2 hf3
  go_wp2_with fail
  refine (laws_toRat _ x.2.2.2.2.1 _ (Ty.at_more F4.out mC2) (by have := HW.out; unfold wCell at this; omega)).mono ?_
  rintro e w5 ⟨r5, rfl, hb5, g5⟩
  obtain ⟨y5a1, y5n1, y5c1, y5a2, y5n2, y5c2, rfl⟩ := sh_Rat (Ty.fresh_at g5)
  have G5 := Lib.hid g5; clear g5
  obtain ⟨hc5, hf5⟩ := bcell hb5
  have hs5_0 : w.heap.size < w5.heap.size := by have := hb5.size; (try simp at this); first | done | omega
  have hs5_1 : w.heap.size + 1 < w5.heap.size := by have := hb5.size; (try simp at this); first | done | omega
  have hs5_2 : w.heap.size + 2 < w5.heap.size := by have := hb5.size; (try simp at this); first | done | omega
  have hz5 : wd.heap.size ≤ w5.heap.size := by have := hb5.size; (try simp at this); omega
  go_upto_region 7 with fail
  go_cut [] (fun wx => ∃ (y6a1 : Option Addr) (y6n1 y6c1 : Nat) (y6a2 : Option Addr) (y6n2 y6c2 : Nat), Turns [w.heap.size + 1, w.heap.size + 2] w5 wx ∧ (wx.cell? ⟨w.heap.size + 1 + 1, 0, none⟩ = some (.bool x.1.1.1) ∧ wx.cell? ⟨w.heap.size + 1 + 1, 1, none⟩ = some (.slice y1a1 y1n1 y1c1) ∧ wx.cell? ⟨w.heap.size + 1 + 1, 2, none⟩ = some (.slice y1a2 y1n2 y1c2) ∧ wx.cell? ⟨w.heap.size + 1 + 1, 3, none⟩ = some (.bool x.2.1.1.1) ∧ wx.cell? ⟨w.heap.size + 1 + 1, 4, none⟩ = some (.slice y2a1 y2n1 y2c1) ∧ wx.cell? ⟨w.heap.size + 1 + 1, 5, none⟩ = some (.slice y2a2 y2n2 y2c2) ∧ wx.cell? ⟨w.heap.size + 1 + 1, 6, none⟩ = some (.bool x.2.2.1.1.1) ∧ wx.cell? ⟨w.heap.size + 1 + 1, 7, none⟩ = some (.slice y3a1 y3n1 y3c1) ∧ wx.cell? ⟨w.heap.size + 1 + 1, 8, none⟩ = some (.slice y3a2 y3n2 y3c2) ∧ wx.cell? ⟨w.heap.size + 1 + 1, 9, none⟩ = some (.bool x.2.2.2.1.1.1) ∧ wx.cell? ⟨w.heap.size + 1 + 1, 10, none⟩ = some (.slice y4a1 y4n1 y4c1) ∧ wx.cell? ⟨w.heap.size + 1 + 1, 11, none⟩ = some (.slice y4a2 y4n2 y4c2) ∧ wx.cell? ⟨w.heap.size + 1 + 1, 12, none⟩ = some (.bool x.2.2.2.2.1.1.1) ∧ wx.cell? ⟨w.heap.size + 1 + 1, 13, none⟩ = some (.slice y5a1 y5n1 y5c1) ∧ wx.cell? ⟨w.heap.size + 1 + 1, 14, none⟩ = some (.slice y5a2 y5n2 y5c2) ∧ wx.cell? ⟨w.heap.size + 1 + 1, 15, none⟩ = some (.bool x.2.2.2.2.2.1.1) ∧ wx.cell? ⟨w.heap.size + 1 + 1, 16, none⟩ = some (.slice y6a1 y6n1 y6c1) ∧ wx.cell? ⟨w.heap.size + 1 + 1, 17, none⟩ = some (.slice y6a2 y6n2 y6c2)) ∧ (∀ j, wx.frozen? ⟨w.heap.size + 1 + 1, j, none⟩ = false) ∧ (wx.cell? ⟨w.heap.size + 1, 0, none⟩ = some (.bool false) ∧ wx.cell? ⟨w.heap.size + 1, 1, none⟩ = some (.slice none 0 0) ∧ wx.cell? ⟨w.heap.size + 1, 2, none⟩ = some (.slice none 0 0) ∧ wx.cell? ⟨w.heap.size + 1, 3, none⟩ = some (.bool false) ∧ wx.cell? ⟨w.heap.size + 1, 4, none⟩ = some (.slice none 0 0) ∧ wx.cell? ⟨w.heap.size + 1, 5, none⟩ = some (.slice none 0 0) ∧ wx.cell? ⟨w.heap.size + 1, 6, none⟩ = some (.bool false) ∧ wx.cell? ⟨w.heap.size + 1, 7, none⟩ = some (.slice none 0 0) ∧ wx.cell? ⟨w.heap.size + 1, 8, none⟩ = some (.slice none 0 0) ∧ wx.cell? ⟨w.heap.size + 1, 9, none⟩ = some (.bool false) ∧ wx.cell? ⟨w.heap.size + 1, 10, none⟩ = some (.slice none 0 0) ∧ wx.cell? ⟨w.heap.size + 1, 11, none⟩ = some (.slice none 0 0) ∧ wx.cell? ⟨w.heap.size + 1, 12, none⟩ = some (.bool false) ∧ wx.cell? ⟨w.heap.size + 1, 13, none⟩ = some (.slice none 0 0) ∧ wx.cell? ⟨w.heap.size + 1, 14, none⟩ = some (.slice none 0 0) ∧ wx.cell? ⟨w.heap.size + 1, 15, none⟩ = some (.bool false) ∧ wx.cell? ⟨w.heap.size + 1, 16, none⟩ = some (.slice none 0 0) ∧ wx.cell? ⟨w.heap.size + 1, 17, none⟩ = some (.slice none 0 0)) ∧ (∀ j, wx.frozen? ⟨w.heap.size + 1, j, none⟩ = false) ∧ Hid (tRat.fresh w5.heap.size wx [.bool x.2.2.2.2.2.1.1, .slice y6a1 y6n1 y6c1, .slice y6a2 y6n2 y6c2] x.2.2.2.2.2))
  case first =>
    go_wp2_with fail
    refine (laws_toRat _ x.2.2.2.2.2 _ (Ty.at_more F5.out mC2) (by have := HW.out; unfold wCell at this; omega)).mono ?_
    rintro e w6 ⟨r6, rfl, hb6, g6⟩
    obtain ⟨y6a1, y6n1, y6c1, y6a2, y6n2, y6c2, rfl⟩ := sh_Rat (Ty.fresh_at g6)
    have G6 := Lib.hid g6; clear g6
    obtain ⟨hc6, hf6⟩ := bcell hb6
    have hs6_0 : w.heap.size < w6.heap.size := by have := hb6.size; (try simp at this); first | done | omega
    have hs6_1 : w.heap.size + 1 < w6.heap.size := by have := hb6.size; (try simp at this); first | done | omega
    have hs6_2 : w.heap.size + 2 < w6.heap.size := by have := hb6.size; (try simp at this); first | done | omega
    have hz6 : w5.heap.size ≤ w6.heap.size := by have := hb6.size; (try simp at this); omega
    go_wp2_with fail
    go_meet
    refine ⟨y6a1, y6n1, y6c1, y6a2, y6n2, y6c2, tC, ⟨?_, ?_, ?_, ?_, ?_, ?_, ?_, ?_, ?_, ?_, ?_, ?_, ?_, ?_, ?_, ?_, ?_, ?_⟩, ?_, ⟨?_, ?_, ?_, ?_, ?_, ?_, ?_, ?_, ?_, ?_, ?_, ?_, ?_, ?_, ?_, ?_, ?_, ?_⟩, ?_, ?_⟩
    all_goals (first | (simp [*]; done) | (go_simp; done) | skip)
    exact Lib.hid (Ty.fresh_turns (bs := [w.heap.size + 1, w.heap.size + 2]) (Ty.fresh_mono G6.out (B' := w5.heap.size) (by simp)) tC (fun k hk => by simp only [List.mem_cons, List.not_mem_nil, or_false] at hk; omega))
  case rest =>
  rename World => wf
  obtain ⟨y6a1, y6n1, y6c1, y6a2, y6n2, y6c2, tF, ⟨O0, O1, O2, O3, O4, O5, O6, O7, O8, O9, O10, O11, O12, O13, O14, O15, O16, O17⟩, ofs, ⟨R0, R1, R2, R3, R4, R5, R6, R7, R8, R9, R10, R11, R12, R13, R14, R15, R16, R17⟩, rfs, G6⟩ := hcut
  have hz6 : w5.heap.size ≤ wf.heap.size := tF.size
  have hsf_0 : w.heap.size < wf.heap.size := by omega
  have hsf_1 : w.heap.size + 1 < wf.heap.size := by omega
  have hsf_2 : w.heap.size + 2 < wf.heap.size := by omega
  have td5 : Turns [w.heap.size + 1, w.heap.size + 2] wd w5 := tC
  have hMf : More w wf := More.turn (mC2 : More w w5) tF (fun k hk => by simp only [List.mem_cons, List.not_mem_nil, or_false] at hk; omega)
  clear hb5 hc5 hf5 o0 o1 o2 o3 o4 o5 o6 o7 o8 o9 o10 o11 o12 o13 o14 o15 o16 o17 ofr p0 p1 p2 p3 p4 p5 r0 r1 r2 r3 r4 r5 r6 r7 r8 r9 r10 r11 r12 r13 r14 r15 r16 r17 rfr
  have key : ∀ W', Turns [w.heap.size + 1, w.heap.size + 2] w1 W' → Turns [w.heap.size + 1, w.heap.size + 2] w2 W' → Turns [w.heap.size + 1, w.heap.size + 2] w3 W' → Turns [w.heap.size + 1, w.heap.size + 2] wd W' → Turns [w.heap.size + 1, w.heap.size + 2] w5 W' → Turns [w.heap.size + 1, w.heap.size + 2] wf W' → tCell.fresh w.heap.size W' [.bool x.1.1.1, .slice y1a1 y1n1 y1c1, .slice y1a2 y1n2 y1c2, .bool x.2.1.1.1, .slice y2a1 y2n1 y2c1, .slice y2a2 y2n2 y2c2, .bool x.2.2.1.1.1, .slice y3a1 y3n1 y3c1, .slice y3a2 y3n2 y3c2, .bool x.2.2.2.1.1.1, .slice y4a1 y4n1 y4c1, .slice y4a2 y4n2 y4c2, .bool x.2.2.2.2.1.1.1, .slice y5a1 y5n1 y5c1, .slice y5a2 y5n2 y5c2, .bool x.2.2.2.2.2.1.1, .slice y6a1 y6n1 y6c1, .slice y6a2 y6n2 y6c2] x := by
    intro W' t1 t2 t3 t4 t5 t6
    have hbs : ∀ k ∈ [w.heap.size + 1, w.heap.size + 2], k < w.heap.size + 3 := by intro k hk; simp only [List.mem_cons, List.not_mem_nil, or_false] at hk; omega
    have q5 := Ty.fresh_turns (bs := [w.heap.size + 1, w.heap.size + 2]) (Ty.fresh_mono G6.out (B' := w5.heap.size) (by simp)) t6 (fun k hk => by have := hbs k hk; omega)
    have q4 := Ty.fresh_pairT (bs := [w.heap.size + 1, w.heap.size + 2]) (B := wd.heap.size) (Ty.fresh_mono G5.out (by simp)) t5 (fun k hk => by have := hbs k hk; omega) (Ty.fresh_mono q5 (by omega)) (by omega)
    have q3 := Ty.fresh_pairT (bs := [w.heap.size + 1, w.heap.size + 2]) (B := w3.heap.size) (Ty.fresh_mono G4.out (by simp)) t4 (fun k hk => by have := hbs k hk; omega) (Ty.fresh_mono q4 (by omega)) (by omega)
    have q2 := Ty.fresh_pairT (bs := [w.heap.size + 1, w.heap.size + 2]) (B := w2.heap.size) (Ty.fresh_mono G3.out (by simp)) t3 (fun k hk => by have := hbs k hk; omega) (Ty.fresh_mono q3 (by omega)) (by omega)
    have q1 := Ty.fresh_pairT (bs := [w.heap.size + 1, w.heap.size + 2]) (B := w1.heap.size) (Ty.fresh_mono G2.out (by simp)) t2 (fun k hk => by have := hbs k hk; omega) (Ty.fresh_mono q2 (by omega)) (by omega)
    have q0 := Ty.fresh_pairT (bs := [w.heap.size + 1, w.heap.size + 2]) (B := w.heap.size + 3) (Ty.fresh_mono G1.out (by simp)) t1 (fun k hk => by have := hbs k hk; omega) (Ty.fresh_mono q1 (by omega)) (by omega)
    exact Ty.fresh_mono (B' := w.heap.size) q0 (by omega)
  have KEY := Lib.hid key; clear key
  have HT : wf.there (w.heap.size + 1) 0 18 := by
    intro j hj
    rw [Nat.zero_add]
    refine ⟨?_, rfs j⟩
    rcases (show j = 0 ∨ j = 1 ∨ j = 2 ∨ j = 3 ∨ j = 4 ∨ j = 5 ∨ j = 6 ∨ j = 7 ∨ j = 8 ∨ j = 9 ∨ j = 10 ∨ j = 11 ∨ j = 12 ∨ j = 13 ∨ j = 14 ∨ j = 15 ∨ j = 16 ∨ j = 17 by omega) with rfl | rfl | rfl | rfl | rfl | rfl | rfl | rfl | rfl | rfl | rfl | rfl | rfl | rfl | rfl | rfl | rfl | rfl
    · rw [R0]; rfl
    · rw [R1]; rfl
    · rw [R2]; rfl
    · rw [R3]; rfl
    · rw [R4]; rfl
    · rw [R5]; rfl
    · rw [R6]; rfl
    · rw [R7]; rfl
    · rw [R8]; rfl
    · rw [R9]; rfl
    · rw [R10]; rfl
    · rw [R11]; rfl
    · rw [R12]; rfl
    · rw [R13]; rfl
    · rw [R14]; rfl
    · rw [R15]; rfl
    · rw [R16]; rfl
    · rw [R17]; rfl
  have HRO : wf.rangeAt (w.heap.size + 1 + 1) 0 [.bool x.1.1.1, .slice y1a1 y1n1 y1c1, .slice y1a2 y1n2 y1c2, .bool x.2.1.1.1, .slice y2a1 y2n1 y2c1, .slice y2a2 y2n2 y2c2, .bool x.2.2.1.1.1, .slice y3a1 y3n1 y3c1, .slice y3a2 y3n2 y3c2, .bool x.2.2.2.1.1.1, .slice y4a1 y4n1 y4c1, .slice y4a2 y4n2 y4c2, .bool x.2.2.2.2.1.1.1, .slice y5a1 y5n1 y5c1, .slice y5a2 y5n2 y5c2, .bool x.2.2.2.2.2.1.1, .slice y6a1 y6n1 y6c1, .slice y6a2 y6n2 y6c2] := by
    intro j v hv
    have hj := (List.getElem?_eq_some_iff.1 hv).1
    simp only [List.length_cons, List.length_nil] at hj
    rcases (show j = 0 ∨ j = 1 ∨ j = 2 ∨ j = 3 ∨ j = 4 ∨ j = 5 ∨ j = 6 ∨ j = 7 ∨ j = 8 ∨ j = 9 ∨ j = 10 ∨ j = 11 ∨ j = 12 ∨ j = 13 ∨ j = 14 ∨ j = 15 ∨ j = 16 ∨ j = 17 by omega) with rfl | rfl | rfl | rfl | rfl | rfl | rfl | rfl | rfl | rfl | rfl | rfl | rfl | rfl | rfl | rfl | rfl | rfl
    · simp only [List.getElem?_cons_zero, Option.some.injEq] at hv; subst hv; exact O0
    · simp only [List.getElem?_cons_zero, List.getElem?_cons_succ, Option.some.injEq] at hv; subst hv; exact O1
    · simp only [List.getElem?_cons_zero, List.getElem?_cons_succ, Option.some.injEq] at hv; subst hv; exact O2
    · simp only [List.getElem?_cons_zero, List.getElem?_cons_succ, Option.some.injEq] at hv; subst hv; exact O3
    · simp only [List.getElem?_cons_zero, List.getElem?_cons_succ, Option.some.injEq] at hv; subst hv; exact O4
    · simp only [List.getElem?_cons_zero, List.getElem?_cons_succ, Option.some.injEq] at hv; subst hv; exact O5
    · simp only [List.getElem?_cons_zero, List.getElem?_cons_succ, Option.some.injEq] at hv; subst hv; exact O6
    · simp only [List.getElem?_cons_zero, List.getElem?_cons_succ, Option.some.injEq] at hv; subst hv; exact O7
    · simp only [List.getElem?_cons_zero, List.getElem?_cons_succ, Option.some.injEq] at hv; subst hv; exact O8
    · simp only [List.getElem?_cons_zero, List.getElem?_cons_succ, Option.some.injEq] at hv; subst hv; exact O9
    · simp only [List.getElem?_cons_zero, List.getElem?_cons_succ, Option.some.injEq] at hv; subst hv; exact O10
    · simp only [List.getElem?_cons_zero, List.getElem?_cons_succ, Option.some.injEq] at hv; subst hv; exact O11
    · simp only [List.getElem?_cons_zero, List.getElem?_cons_succ, Option.some.injEq] at hv; subst hv; exact O12
    · simp only [List.getElem?_cons_zero, List.getElem?_cons_succ, Option.some.injEq] at hv; subst hv; exact O13
    · simp only [List.getElem?_cons_zero, List.getElem?_cons_succ, Option.some.injEq] at hv; subst hv; exact O14
    · simp only [List.getElem?_cons_zero, List.getElem?_cons_succ, Option.some.injEq] at hv; subst hv; exact O15
    · simp only [List.getElem?_cons_zero, List.getElem?_cons_succ, Option.some.injEq] at hv; subst hv; exact O16
    · simp only [List.getElem?_cons_zero, List.getElem?_cons_succ, Option.some.injEq] at hv; subst hv; exact O17
  clear O0 O1 O2 O3 O4 O5 O6 O7 O8 O9 O10 O11 O12 O13 O14 O15 O16 O17
  have HRG : (wf.setCells (w.heap.size + 1) 0 [.bool x.1.1.1, .slice y1a1 y1n1 y1c1, .slice y1a2 y1n2 y1c2, .bool x.2.1.1.1, .slice y2a1 y2n1 y2c1, .slice y2a2 y2n2 y2c2, .bool x.2.2.1.1.1, .slice y3a1 y3n1 y3c1, .slice y3a2 y3n2 y3c2, .bool x.2.2.2.1.1.1, .slice y4a1 y4n1 y4c1, .slice y4a2 y4n2 y4c2, .bool x.2.2.2.2.1.1.1, .slice y5a1 y5n1 y5c1, .slice y5a2 y5n2 y5c2, .bool x.2.2.2.2.2.1.1, .slice y6a1 y6n1 y6c1, .slice y6a2 y6n2 y6c2]).rangeAt (w.heap.size + 1) 0 [.bool x.1.1.1, .slice y1a1 y1n1 y1c1, .slice y1a2 y1n2 y1c2, .bool x.2.1.1.1, .slice y2a1 y2n1 y2c1, .slice y2a2 y2n2 y2c2, .bool x.2.2.1.1.1, .slice y3a1 y3n1 y3c1, .slice y3a2 y3n2 y3c2, .bool x.2.2.2.1.1.1, .slice y4a1 y4n1 y4c1, .slice y4a2 y4n2 y4c2, .bool x.2.2.2.2.1.1.1, .slice y5a1 y5n1 y5c1, .slice y5a2 y5n2 y5c2, .bool x.2.2.2.2.2.1.1, .slice y6a1 y6n1 y6c1, .slice y6a2 y6n2 y6c2] := World.rangeAt_setCells_same wf _ _ _ HT
  have Q0 := HRG 0 _ rfl
  have Q1 := HRG 1 _ rfl
  have Q2 := HRG 2 _ rfl
  have Q3 := HRG 3 _ rfl
  have Q4 := HRG 4 _ rfl
  have Q5 := HRG 5 _ rfl
  have Q6 := HRG 6 _ rfl
  have Q7 := HRG 7 _ rfl
  have Q8 := HRG 8 _ rfl
  have Q9 := HRG 9 _ rfl
  have Q10 := HRG 10 _ rfl
  have Q11 := HRG 11 _ rfl
  have Q12 := HRG 12 _ rfl
  have Q13 := HRG 13 _ rfl
  have Q14 := HRG 14 _ rfl
  have Q15 := HRG 15 _ rfl
  have Q16 := HRG 16 _ rfl
  have Q17 := HRG 17 _ rfl
  have TT : Turns [w.heap.size + 1, w.heap.size + 2] wf (wf.setCells (w.heap.size + 1) 0 [.bool x.1.1.1, .slice y1a1 y1n1 y1c1, .slice y1a2 y1n2 y1c2, .bool x.2.1.1.1, .slice y2a1 y2n1 y2c1, .slice y2a2 y2n2 y2c2, .bool x.2.2.1.1.1, .slice y3a1 y3n1 y3c1, .slice y3a2 y3n2 y3c2, .bool x.2.2.2.1.1.1, .slice y4a1 y4n1 y4c1, .slice y4a2 y4n2 y4c2, .bool x.2.2.2.2.1.1.1, .slice y5a1 y5n1 y5c1, .slice y5a2 y5n2 y5c2, .bool x.2.2.2.2.2.1.1, .slice y6a1 y6n1 y6c1, .slice y6a2 y6n2 y6c2]) := turns_setCells _ _ _ (Turns.refl _ _) (by simp)
  have MM : More w (wf.setCells (w.heap.size + 1) 0 [.bool x.1.1.1, .slice y1a1 y1n1 y1c1, .slice y1a2 y1n2 y1c2, .bool x.2.1.1.1, .slice y2a1 y2n1 y2c1, .slice y2a2 y2n2 y2c2, .bool x.2.2.1.1.1, .slice y3a1 y3n1 y3c1, .slice y3a2 y3n2 y3c2, .bool x.2.2.2.1.1.1, .slice y4a1 y4n1 y4c1, .slice y4a2 y4n2 y4c2, .bool x.2.2.2.2.1.1.1, .slice y5a1 y5n1 y5c1, .slice y5a2 y5n2 y5c2, .bool x.2.2.2.2.2.1.1, .slice y6a1 y6n1 y6c1, .slice y6a2 y6n2 y6c2]) := More.turn hMf TT (fun k hk => by simp only [List.mem_cons, List.not_mem_nil, or_false] at hk; omega)
  obtain ⟨wl, hwl⟩ : ∃ q9, wf.setCells (w.heap.size + 1) 0 [.bool x.1.1.1, .slice y1a1 y1n1 y1c1, .slice y1a2 y1n2 y1c2, .bool x.2.1.1.1, .slice y2a1 y2n1 y2c1, .slice y2a2 y2n2 y2c2, .bool x.2.2.1.1.1, .slice y3a1 y3n1 y3c1, .slice y3a2 y3n2 y3c2, .bool x.2.2.2.1.1.1, .slice y4a1 y4n1 y4c1, .slice y4a2 y4n2 y4c2, .bool x.2.2.2.2.1.1.1, .slice y5a1 y5n1 y5c1, .slice y5a2 y5n2 y5c2, .bool x.2.2.2.2.2.1.1, .slice y6a1 y6n1 y6c1, .slice y6a2 y6n2 y6c2] = q9 := ⟨_, rfl⟩
  rw [hwl] at Q0 Q1 Q2 Q3 Q4 Q5 Q6 Q7 Q8 Q9 Q10 Q11 Q12 Q13 Q14 Q15 Q16 Q17 TT MM
  clear HRG
  clear R0 R1 R2 R3 R4 R5 R6 R7 R8 R9 R10 R11 R12 R13 R14 R15 R16 R17
  go_wp2_with (first | (refine wpList_load_mid rfl _ _ rfl (w.heap.size + 1 + 1) 0 rfl [.bool x.1.1.1, .slice y1a1 y1n1 y1c1, .slice y1a2 y1n2 y1c2, .bool x.2.1.1.1, .slice y2a1 y2n1 y2c1, .slice y2a2 y2n2 y2c2, .bool x.2.2.1.1.1, .slice y3a1 y3n1 y3c1, .slice y3a2 y3n2 y3c2, .bool x.2.2.2.1.1.1, .slice y4a1 y4n1 y4c1, .slice y4a2 y4n2 y4c2, .bool x.2.2.2.2.1.1.1, .slice y5a1 y5n1 y5c1, .slice y5a2 y5n2 y5c2, .bool x.2.2.2.2.2.1.1, .slice y6a1 y6n1 y6c1, .slice y6a2 y6n2 y6c2] _ HRO Try.underlying59 rfl (by kernel_rfl) ?_) | (refine wpList_store_mid rfl _ _ _ rfl (w.heap.size + 1) 0 _ rfl rfl HT (by kernel_rfl) (by simp [Value.oneCell']) ?_; show wpList _ _ _ _ _ (wf.setCells (w.heap.size + 1) 0 [.bool x.1.1.1, .slice y1a1 y1n1 y1c1, .slice y1a2 y1n2 y1c2, .bool x.2.1.1.1, .slice y2a1 y2n1 y2c1, .slice y2a2 y2n2 y2c2, .bool x.2.2.1.1.1, .slice y3a1 y3n1 y3c1, .slice y3a2 y3n2 y3c2, .bool x.2.2.2.1.1.1, .slice y4a1 y4n1 y4c1, .slice y4a2 y4n2 y4c2, .bool x.2.2.2.2.1.1.1, .slice y5a1 y5n1 y5c1, .slice y5a2 y5n2 y5c2, .bool x.2.2.2.2.2.1.1, .slice y6a1 y6n1 y6c1, .slice y6a2 y6n2 y6c2]); rw [hwl]))
  refine bodyPost_ret (v := .agg #[.bool x.1.1.1, .slice y1a1 y1n1 y1c1, .slice y1a2 y1n2 y1c2, .bool x.2.1.1.1, .slice y2a1 y2n1 y2c1, .slice y2a2 y2n2 y2c2, .bool x.2.2.1.1.1, .slice y3a1 y3n1 y3c1, .slice y3a2 y3n2 y3c2, .bool x.2.2.2.1.1.1, .slice y4a1 y4n1 y4c1, .slice y4a2 y4n2 y4c2, .bool x.2.2.2.2.1.1.1, .slice y5a1 y5n1 y5c1, .slice y5a2 y5n2 y5c2, .bool x.2.2.2.2.2.1.1, .slice y6a1 y6n1 y6c1, .slice y6a2 y6n2 y6c2]) ?_ rfl ⟨[.bool x.1.1.1, .slice y1a1 y1n1 y1c1, .slice y1a2 y1n2 y1c2, .bool x.2.1.1.1, .slice y2a1 y2n1 y2c1, .slice y2a2 y2n2 y2c2, .bool x.2.2.1.1.1, .slice y3a1 y3n1 y3c1, .slice y3a2 y3n2 y3c2, .bool x.2.2.2.1.1.1, .slice y4a1 y4n1 y4c1, .slice y4a2 y4n2 y4c2, .bool x.2.2.2.2.1.1.1, .slice y5a1 y5n1 y5c1, .slice y5a2 y5n2 y5c2, .bool x.2.2.2.2.2.1.1, .slice y6a1 y6n1 y6c1, .slice y6a2 y6n2 y6c2], rfl, MM, ?_⟩
  · simp [results, Try.results19, go_sem, *]
  · exact KEY.out _ (t13.trans (tD.trans (td5.trans (tF.trans TT)))) (t23.trans (tD.trans (td5.trans (tF.trans TT)))) (tD.trans (td5.trans (tF.trans TT))) (td5.trans (tF.trans TT)) (tF.trans TT) TT
end Go.Proofs.Ytnndjbomfcacfaa
/- toCellS: the copy of a value of this kind in new memory. -/
namespace Go.Proofs.Ytnndjbomfcacfaa
open Go.RowKit
end Go.Proofs.Ytnndjbomfcacfaa
/- toWall: the copy of a value of this kind in new memory. -/
namespace Go.Proofs.Ytnndjbomfcacfaa
open Go.RowKit

end Go.Proofs.Ytnndjbomfcacfaa
/- toWallS: the copy of a value of this kind in new memory. -/
namespace Go.Proofs.Ytnndjbomfcacfaa
open Go.RowKit
end Go.Proofs.Ytnndjbomfcacfaa
/- toDoor: the copy of a value of this kind in new memory. -/

namespace Go.Proofs.Ytnndjbomfcacfaa
open Go.RowKit

end Go.Proofs.Ytnndjbomfcacfaa
/- toDoorS: the copy of a value of this kind in new memory. -/
namespace Go.Proofs.Ytnndjbomfcacfaa
open Go.RowKit
end Go.Proofs.Ytnndjbomfcacfaa
/- toSlice: the copy of a value of this kind in new memory. -/
namespace Go.Proofs.Ytnndjbomfcacfaa
open Go.RowKit

end Go.Proofs.Ytnndjbomfcacfaa
