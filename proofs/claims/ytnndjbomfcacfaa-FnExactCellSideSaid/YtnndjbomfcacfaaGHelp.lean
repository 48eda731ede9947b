/- Several texts laid together; each has its own word at its head. -/
import Derived.Test.YtnndjbomfcacfaaGBase
import Derived.Test.YtnndjbomfcacfaaGVec
import Derived.Deep.RegionHeld3
/- szIntS: how much of the room a value of this kind takes. -/
namespace Go.Proofs.Ytnndjbomfcacfaa
open Go.RowKit
set_option maxHeartbeats 400000 in
theorem laws_szIntS (v : Value) (l : List Int) (left : Int) (w : World) (hv : tInts.at w [v] l) (h0 : 0 ≤ left) (h1 : left ≤ 1048576) :
    Calls Try.prog 42 #[v, .int .i64 left] w fun e w' => e = .returned (.int .i64 (szI (wIntS l) left)) ∧ More w w' := by
  unfold wIntS
  obtain ⟨ao, cap, rfl, hl⟩ := sl_len63 hv
  clear hv
  obtain ⟨n, hn⟩ : ∃ n, n = l.length := ⟨_, rfl⟩
  rw [← hn] at hl ⊢
  clear hn
  by_cases h : (n : Int) ≤ left
  · go_enter Try.func42, Try.ntmps42
    go_wp2
    go_ret
    exact ⟨ret_int (szI_pos h).symm, More.refl _⟩
  · go_enter Try.func42, Try.ntmps42
    go_wp2
    go_ret
    exact ⟨ret_int (szI_neg (by omega)).symm, More.refl _⟩
end Go.Proofs.Ytnndjbomfcacfaa
/- szBigInt: how much of the room a value of this kind takes. -/
namespace Go.Proofs.Ytnndjbomfcacfaa
open Go.RowKit

set_option maxHeartbeats 1600000 in
theorem laws_szBigInt (cs : List Value) (x : Bool × List Int) (left : Int) (w : World) (hv : tBig.at w cs x) (h0 : 0 ≤ left) (h1 : left ≤ 1048576) :
    Calls Try.prog 41 #[.agg cs.toArray, .int .i64 left] w fun e w' => e = .returned (.int .i64 (szI (wBigInt x) left)) ∧ More w w' := by
  obtain ⟨k0, d0, rfl, f0, e0⟩ := at_prod hv
  have f1 := e0; clear e0
  obtain rfl := sh_bool f0
  have F0 := Lib.hid f0; clear f0
  obtain ⟨z1a0, z1n0, z1c0, rfl⟩ := sh_slice f1
  have F1 := Lib.hid f1; clear f1
  show Calls Try.prog 41 #[.agg #[.bool x.1, .slice z1a0 z1n0 z1c0], .int .i64 left] w _
  have HX : More (w.alloc (.cells #[.bool x.1, .slice z1a0 z1n0 z1c0] 46)) (w.alloc (.cells #[.bool x.1, .slice z1a0 z1n0 z1c0] 46)) := More.refl _
  have HB : ∀ w', More (w.alloc (.cells #[.bool x.1, .slice z1a0 z1n0 z1c0] 46)) w' → w'.cell? ⟨w.heap.size, 0, none⟩ = some (.bool x.1) ∧ w'.cell? ⟨w.heap.size, 1, none⟩ = some (.slice z1a0 z1n0 z1c0) ∧ (∀ j, w'.frozen? ⟨w.heap.size, j, none⟩ = false) := fun w' h => ⟨box_new (by simp) h 0, box_new (by simp) h 1, fun j => box_free (by simp) h j⟩
  go_enter Try.func41, Try.ntmps41
  go_wp2_with fail
  refine (laws_szIntS _ x.2 _ _ (Ty.at_more F1.out mC) (by omega) (by omega)).mono ?_
  rintro e w1 ⟨rfl, hb1⟩; have HX : More (w.alloc (.cells #[.bool x.1, .slice z1a0 z1n0 z1c0] 46)) _ := More.trans (by assumption) hb1; have HBw := HB _ HX
  by_cases k0 : ((wIntS x.2 : Nat) : Int) ≤ left
  rotate_left
  · rw [szI_neg k0]; go_wp2_with fail; go_ret; exact ⟨ret_int (szI_neg (by unfold wBigInt; omega)).symm, mC⟩
  rw [szI_pos k0]
  have g0 : 0 ≤ left - (wIntS x.2 : Nat) := by omega
  go_wp2_with fail
  go_ret
  exact ⟨ret_int (by rw [szI_pos (by unfold wBigInt; omega)]; unfold wBigInt; omega), mC⟩
end Go.Proofs.Ytnndjbomfcacfaa
/- szRat: how much of the room a value of this kind takes. -/
namespace Go.Proofs.Ytnndjbomfcacfaa
open Go.RowKit

set_option maxHeartbeats 1600000 in
theorem laws_szRat (cs : List Value) (x : QR) (left : Int) (w : World) (hv : tRat.at w cs x) (h0 : 0 ≤ left) (h1 : left ≤ 1048576) :
    Calls Try.prog 17 #[.agg cs.toArray, .int .i64 left] w fun e w' => e = .returned (.int .i64 (szI (wRat x) left)) ∧ More w w' := by
  obtain ⟨k0, d0, rfl, f0, e0⟩ := at_prod hv
  have f1 := e0; clear e0
  obtain ⟨z0a1, z0n1, z0c1, rfl⟩ := sh_BigInt f0
  have F0 := Lib.hid f0; clear f0
  obtain ⟨z1a0, z1n0, z1c0, rfl⟩ := sh_slice f1
  have F1 := Lib.hid f1; clear f1
  show Calls Try.prog 17 #[.agg #[.bool x.1.1, .slice z0a1 z0n1 z0c1, .slice z1a0 z1n0 z1c0], .int .i64 left] w _
  have HX : More (w.alloc (.cells #[.bool x.1.1, .slice z0a1 z0n1 z0c1, .slice z1a0 z1n0 z1c0] 48)) (w.alloc (.cells #[.bool x.1.1, .slice z0a1 z0n1 z0c1, .slice z1a0 z1n0 z1c0] 48)) := More.refl _
  have HB : ∀ w', More (w.alloc (.cells #[.bool x.1.1, .slice z0a1 z0n1 z0c1, .slice z1a0 z1n0 z1c0] 48)) w' → w'.cell? ⟨w.heap.size, 0, none⟩ = some (.bool x.1.1) ∧ w'.cell? ⟨w.heap.size, 1, none⟩ = some (.slice z0a1 z0n1 z0c1) ∧ w'.cell? ⟨w.heap.size, 2, none⟩ = some (.slice z1a0 z1n0 z1c0) ∧ (∀ j, w'.frozen? ⟨w.heap.size, j, none⟩ = false) := fun w' h => ⟨box_new (by simp) h 0, box_new (by simp) h 1, box_new (by simp) h 2, fun j => box_free (by simp) h j⟩
  go_enter Try.func17, Try.ntmps17
  go_wp2_with fail
  refine (laws_szBigInt _ x.1 _ _ (Ty.at_more F0.out mC) (by omega) (by omega)).mono ?_
  rintro e w1 ⟨rfl, hb1⟩; have HX : More (w.alloc (.cells #[.bool x.1.1, .slice z0a1 z0n1 z0c1, .slice z1a0 z1n0 z1c0] 48)) _ := More.trans (by assumption) hb1; have HBw := HB _ HX
  by_cases k0 : ((wBigInt x.1 : Nat) : Int) ≤ left
  rotate_left
  · rw [szI_neg k0]; go_wp2_with fail; go_ret; exact ⟨ret_int (szI_neg (by unfold wRat; omega)).symm, mC⟩
  rw [szI_pos k0]
  have g0 : 0 ≤ left - (wBigInt x.1 : Nat) := by omega
  go_wp2_with fail
  refine (laws_szIntS _ x.2 _ _ (Ty.at_more F1.out mC) (by omega) (by omega)).mono ?_
  rintro e w2 ⟨rfl, hb1⟩; have HX : More (w.alloc (.cells #[.bool x.1.1, .slice z0a1 z0n1 z0c1, .slice z1a0 z1n0 z1c0] 48)) _ := More.trans (by assumption) hb1; have HBw := HB _ HX
  by_cases k1 : ((wIntS x.2 : Nat) : Int) ≤ left - (wBigInt x.1 : Nat)
  rotate_left
  · rw [szI_neg k1]; go_wp2_with fail; go_ret; exact ⟨ret_int (szI_neg (by unfold wRat; omega)).symm, mC⟩
  rw [szI_pos k1]
  have g1 : 0 ≤ left - (wBigInt x.1 : Nat) - (wIntS x.2 : Nat) := by omega
  go_wp2_with fail
  go_ret
  exact ⟨ret_int (by rw [szI_pos (by unfold wRat; omega)]; unfold wRat; omega), mC⟩
end Go.Proofs.Ytnndjbomfcacfaa
/- toIntS: the copy of a value of this kind in new memory. -/
namespace Go.Proofs.Ytnndjbomfcacfaa
open Go.RowKit
theorem infoint_ : (Try.prog.info? 3).map (fun i => (i.zero, i.size, i.bytes)) = some (some (.int .i64 0), 1, 8) := by kernel_rfl
set_option maxHeartbeats 3200000 in
theorem laws_toIntS (v : Value) (l : List Int) (w : World) (hv : tInts.at w [v] l) (hw : wIntS l ≤ 1048576) :
    Calls Try.prog 46 #[v] w fun e w' => ∃ v', e = .returned v' ∧ More w w' ∧ tInts.fresh w.heap.size w' [v'] l := by
  obtain ⟨ao, cap, rfl⟩ := sl_len hv
  have HV := Lib.hid hv; clear hv
  have HW : Hid (l.length ≤ 1048576) := Lib.hid hw
  have hl : l.length ≤ 1048576 := by have := HW.out; omega
  clear hw
  obtain ⟨n, hn⟩ : ∃ n, n = l.length := ⟨_, rfl⟩
  rw [← hn] at HV hl ⊢
  have HN := Lib.hid hn; clear hn
  obtain ⟨i0, hi, hz0, hz1, hz2⟩ := info_parts infoint_
  go_enter Try.func46, Try.ntmps46
  go_wp2_with (at_make; refine wpList_make_full _ rfl _ _ 44 rfl w.heap.size 3 i0 (.int .i64 0) 1 Try.underlying44 hi hz0 hz1 _ _ _ _ n rfl rfl rfl rfl ?c1 ?c2 ?c3 ?_)
  case c1 => rw [hz2]; omega
  case c2 => unfold maxLen; omega
  case c3 => exact Nat.le_refl _
  intro w1 hown hgr
  have hb1 : More w w1 := Turns.more ((Turns.refl _ _).grown hgr (by simp))
  have HR : Hid (RowK tInt w.heap.size 3 w1 w.heap.size n n l 0) := Lib.hid (RowK.start hown)
  clear hown hgr
  go_wp2_with fail
  go_loopw [4] (fun i wr => ∃ k : Nat, k ≤ n ∧ i = .int .i64 k ∧ More w wr ∧ Hid (RowK tInt w.heap.size 3 wr w.heap.size n n l k)) (fun i _ => n - (intOf i).toNat)
  case atStart => exact ⟨0, Nat.zero_le _, rfl, hb1, HR⟩
  case round =>
    obtain ⟨k, hk, rfl, hm, HK⟩ := hrel
    clear HR hb1
    by_cases hlt : k < n
    · obtain ⟨b, off, x, rfl, hblt, hx, ox, p0⟩ := int_el (Ty.at_more HV.out hm) (k := k) (by rw [← HN.out]; exact hlt)
      have HX := Lib.hid hx; have OX := Lib.hid ox; clear hx ox
      skip
      skip
      skip
      · have hb2 : More wr wr := More.refl _
        have HK2 := RowK.more HK.out hb2
        obtain ⟨⟨u0, q0⟩, f0⟩ := HK2.cells (k) (by show _ < n * 1; omega)
        have HKK := Lib.hid HK2; clear HK2
        go_wp2_with fail
        go_roundw
        case rel => exact ⟨k + 1, by omega, by go_num, Turns.more ((Turns.via hb2 (hm.turns [])).setCell (.inr (Nat.le_refl _)) _), Lib.hid (by have h := RowK.step HK.out hb2 hlt HX.out (int_fresh OX.out); rw [show k * tInt.size = k from Nat.mul_one k] at h; exact h)⟩
        case measure => simp [intOf]; omega
    · go_wp2_with fail
      go_ret
      obtain rfl : k = n := by omega
      exact ⟨_, rfl, hm, HK.out.fresh HN.out⟩
end Go.Proofs.Ytnndjbomfcacfaa
/- toBigInt: the copy of a value of this kind in new memory. -/
namespace Go.Proofs.Ytnndjbomfcacfaa
open Go.RowKit

set_option maxHeartbeats 3200000 in
theorem laws_toBigInt (cs : List Value) (x : Bool × List Int) (w : World) (hv : tBig.at w cs x) (hw : wBigInt x ≤ 1048576) :
    Calls Try.prog 45 #[.agg cs.toArray] w fun e w' => ∃ cs' : List Value, e = .returned (.agg cs'.toArray) ∧ More w w' ∧ tBig.fresh w.heap.size w' cs' x := by
  have HW := Lib.hid hw; clear hw
  obtain ⟨k0, d0, rfl, f0, e0⟩ := at_prod hv
  have f1 := e0; clear e0
  obtain rfl := sh_bool f0
  have F0 := Lib.hid f0; clear f0
  obtain ⟨z1a0, z1n0, z1c0, rfl⟩ := sh_slice f1
  have F1 := Lib.hid f1; clear f1
  show Calls Try.prog 45 #[.agg #[.bool x.1, .slice z1a0 z1n0 z1c0]] w _
  go_enter Try.func45, Try.ntmps45
  go_wp2_with fail
  refine (laws_toIntS _ x.2 _ (Ty.at_more F1.out mC2) (by have := HW.out; unfold wBigInt at this; omega)).mono ?_
  rintro e w1 ⟨r1, rfl, hb1, g1⟩
  obtain ⟨y1a0, y1n0, y1c0, er1⟩ := sh_slice (Ty.fresh_at g1); simp only [List.cons.injEq, and_true] at er1; subst er1
  have G1 := Lib.hid g1; clear g1
  obtain ⟨hc1, hf1⟩ := bcell hb1
  have hs1_0 : w.heap.size < w1.heap.size := by have := hb1.size; (try simp at this); first | done | omega
  have hs1_1 : w.heap.size + 1 < w1.heap.size := by have := hb1.size; (try simp at this); first | done | omega
  have hs1_2 : w.heap.size + 2 < w1.heap.size := by have := hb1.size; (try simp at this); first | done | omega
  have key : ∀ W', Turns [w.heap.size + 1, w.heap.size + 2] w1 W' → tBig.fresh w.heap.size W' [.bool x.1, .slice y1a0 y1n0 y1c0] x := by
    intro W' t1
    have hbs : ∀ k ∈ [w.heap.size + 1, w.heap.size + 2], k < w.heap.size + 3 := by intro k hk; simp only [List.mem_cons, List.not_mem_nil, or_false] at hk; omega
    have q1 := Ty.fresh_turns (bs := [w.heap.size + 1, w.heap.size + 2]) (Ty.fresh_mono G1.out (B' := w.heap.size + 3) (by simp)) t1 (fun k hk => by have := hbs k hk; omega)
    have q0 := Ty.fresh_flat fBool (x := x.1) rfl trivial q1
    exact Ty.fresh_mono (B' := w.heap.size) q0 (by omega)
  have KEY := Lib.hid key; clear key
  go_wp2_with fail
  refine bodyPost_ret (v := .agg #[.bool x.1, .slice y1a0 y1n0 y1c0]) ?_ rfl ⟨[.bool x.1, .slice y1a0 y1n0 y1c0], rfl, ?_, ?_⟩
  · simp [results, Try.results45, go_sem, *]
  · exact mC2
  · refine KEY.out _ ?_
    · exact tC
end Go.Proofs.Ytnndjbomfcacfaa
/- toRat: the copy of a value of this kind in new memory. -/
namespace Go.Proofs.Ytnndjbomfcacfaa
open Go.RowKit

set_option maxHeartbeats 3200000 in
theorem laws_toRat (cs : List Value) (x : QR) (w : World) (hv : tRat.at w cs x) (hw : wRat x ≤ 1048576) :
    Calls Try.prog 20 #[.agg cs.toArray] w fun e w' => ∃ cs' : List Value, e = .returned (.agg cs'.toArray) ∧ More w w' ∧ tRat.fresh w.heap.size w' cs' x := by
  have HW := Lib.hid hw; clear hw
  obtain ⟨k0, d0, rfl, f0, e0⟩ := at_prod hv
  have f1 := e0; clear e0
  obtain ⟨z0a1, z0n1, z0c1, rfl⟩ := sh_BigInt f0
  have F0 := Lib.hid f0; clear f0
  obtain ⟨z1a0, z1n0, z1c0, rfl⟩ := sh_slice f1
  have F1 := Lib.hid f1; clear f1
  show Calls Try.prog 20 #[.agg #[.bool x.1.1, .slice z0a1 z0n1 z0c1, .slice z1a0 z1n0 z1c0]] w _
  go_enter Try.func20, Try.ntmps20
  go_wp2_with fail
  refine (laws_toBigInt _ x.1 _ (Ty.at_more F0.out mC2) (by have := HW.out; unfold wRat at this; omega)).mono ?_
  rintro e w1 ⟨r1, rfl, hb1, g1⟩
  obtain ⟨y1a1, y1n1, y1c1, rfl⟩ := sh_BigInt (Ty.fresh_at g1)
  have G1 := Lib.hid g1; clear g1
  obtain ⟨hc1, hf1⟩ := bcell hb1
  have hs1_0 : w.heap.size < w1.heap.size := by have := hb1.size; (try simp at this); first | done | omega
  have hs1_1 : w.heap.size + 1 < w1.heap.size := by have := hb1.size; (try simp at this); first | done | omega
  have hs1_2 : w.heap.size + 2 < w1.heap.size := by have := hb1.size; (try simp at this); first | done | omega
  go_wp2_with fail
  refine (laws_toIntS _ x.2 _ (Ty.at_more F1.out mC2) (by have := HW.out; unfold wRat at this; omega)).mono ?_
  rintro e w2 ⟨r2, rfl, hb2, g2⟩
  obtain ⟨y2a0, y2n0, y2c0, er2⟩ := sh_slice (Ty.fresh_at g2); simp only [List.cons.injEq, and_true] at er2; subst er2
  have G2 := Lib.hid g2; clear g2
  obtain ⟨hc2, hf2⟩ := bcell hb2
  have hs2_0 : w.heap.size < w2.heap.size := by have := hb2.size; (try simp at this); first | done | omega
  have hs2_1 : w.heap.size + 1 < w2.heap.size := by have := hb2.size; (try simp at this); first | done | omega
  have hs2_2 : w.heap.size + 2 < w2.heap.size := by have := hb2.size; (try simp at this); first | done | omega
  have hz2 : w1.heap.size ≤ w2.heap.size := by have := hb2.size; (try simp at this); omega
  have key : ∀ W', Turns [w.heap.size + 1, w.heap.size + 2] w1 W' → Turns [w.heap.size + 1, w.heap.size + 2] w2 W' → tRat.fresh w.heap.size W' [.bool x.1.1, .slice y1a1 y1n1 y1c1, .slice y2a0 y2n0 y2c0] x := by
    intro W' t1 t2
    have hbs : ∀ k ∈ [w.heap.size + 1, w.heap.size + 2], k < w.heap.size + 3 := by intro k hk; simp only [List.mem_cons, List.not_mem_nil, or_false] at hk; omega
    have q1 := Ty.fresh_turns (bs := [w.heap.size + 1, w.heap.size + 2]) (Ty.fresh_mono G2.out (B' := w1.heap.size) (by simp)) t2 (fun k hk => by have := hbs k hk; omega)
    have q0 := Ty.fresh_pairT (bs := [w.heap.size + 1, w.heap.size + 2]) (B := w.heap.size + 3) (Ty.fresh_mono G1.out (by simp)) t1 (fun k hk => by have := hbs k hk; omega) (Ty.fresh_mono q1 (by omega)) (by omega)
    exact Ty.fresh_mono (B' := w.heap.size) q0 (by omega)
  have KEY := Lib.hid key; clear key
  go_wp2_with fail
  refine bodyPost_ret (v := .agg #[.bool x.1.1, .slice y1a1 y1n1 y1c1, .slice y2a0 y2n0 y2c0]) ?_ rfl ⟨[.bool x.1.1, .slice y1a1 y1n1 y1c1, .slice y2a0 y2n0 y2c0], rfl, ?_, ?_⟩
  · simp [results, Try.results20, go_sem, *]
  · exact mC2
  · refine KEY.out _ ?_ ?_
    · exact tC
    · exact tC
end Go.Proofs.Ytnndjbomfcacfaa
/- eqBigInt: two values of this kind that read alike are equal. -/

namespace Go.Proofs.Ytnndjbomfcacfaa
open Go.RowKit

set_option maxHeartbeats 3200000 in
theorem laws_eqBigInt (cs ds : List Value) (x : Bool × List Int) (w : World) (hv : tBig.at w cs x) (hv' : tBig.at w ds x) (hw : wBigInt x ≤ 1048576) :
    Calls Try.prog 49 #[.agg cs.toArray, .agg ds.toArray] w fun e w' => e = .returned (.bool true) ∧ More w w' := by
  have HW := Lib.hid hw; clear hw
  obtain ⟨k0, d0, rfl, f0, e0⟩ := at_prod hv
  have f1 := e0; clear e0
  obtain rfl := sh_bool f0
  have F0 := Lib.hid f0; clear f0
  obtain ⟨z1a0, z1n0, z1c0, rfl⟩ := sh_slice f1
  have F1 := Lib.hid f1; clear f1
  obtain ⟨sk0, sd0, rfl, sf0, se0⟩ := at_prod hv'
  have sf1 := se0; clear se0
  obtain rfl := sh_bool sf0
  have G0 := Lib.hid sf0; clear sf0
  obtain ⟨sz1a0, sz1n0, sz1c0, rfl⟩ := sh_slice sf1
  have G1 := Lib.hid sf1; clear sf1
  show Calls Try.prog 49 #[.agg #[.bool x.1, .slice z1a0 z1n0 z1c0], .agg #[.bool x.1, .slice sz1a0 sz1n0 sz1c0]] w _
  have HX : More ((w.alloc (.cells #[.bool x.1, .slice z1a0 z1n0 z1c0] 53)).alloc (.cells #[.bool x.1, .slice sz1a0 sz1n0 sz1c0] 53)) ((w.alloc (.cells #[.bool x.1, .slice z1a0 z1n0 z1c0] 53)).alloc (.cells #[.bool x.1, .slice sz1a0 sz1n0 sz1c0] 53)) := More.refl _
  have HB : ∀ w', More ((w.alloc (.cells #[.bool x.1, .slice z1a0 z1n0 z1c0] 53)).alloc (.cells #[.bool x.1, .slice sz1a0 sz1n0 sz1c0] 53)) w' → w'.cell? ⟨w.heap.size, 0, none⟩ = some (.bool x.1) ∧ w'.cell? ⟨w.heap.size, 1, none⟩ = some (.slice z1a0 z1n0 z1c0) ∧ (∀ j, w'.frozen? ⟨w.heap.size, j, none⟩ = false) ∧ w'.cell? ⟨w.heap.size + 1, 0, none⟩ = some (.bool x.1) ∧ w'.cell? ⟨w.heap.size + 1, 1, none⟩ = some (.slice sz1a0 sz1n0 sz1c0) ∧ (∀ j, w'.frozen? ⟨w.heap.size + 1, j, none⟩ = false) := fun w' h => ⟨box_new (by simp) (More.un h) 0, box_new (by simp) (More.un h) 1, fun j => box_free (by simp) (More.un h) j, box_new (by simp) h 0, box_new (by simp) h 1, fun j => box_free (by simp) h j⟩
  go_enter Try.func49, Try.ntmps49
  go_wp2_with fail
  refine (laws_eqIntS _ _ x.2 _ (Ty.at_more F1.out mC) (Ty.at_more G1.out mC) (by have := HW.out; unfold wBigInt wIntS at this; omega)).mono ?_
  rintro e w2 ⟨rfl, hb1⟩; have HX : More ((w.alloc (.cells #[.bool x.1, .slice z1a0 z1n0 z1c0] 53)).alloc (.cells #[.bool x.1, .slice sz1a0 sz1n0 sz1c0] 53)) _ := More.trans (by assumption) hb1; have HBw := HB _ HX
  go_wp2_with fail
  go_ret
  exact ⟨rfl, mC⟩
end Go.Proofs.Ytnndjbomfcacfaa
/- eqRat: two values of this kind that read alike are equal. -/
namespace Go.Proofs.Ytnndjbomfcacfaa
open Go.RowKit

set_option maxHeartbeats 3200000 in
theorem laws_eqRat (cs ds : List Value) (x : QR) (w : World) (hv : tRat.at w cs x) (hv' : tRat.at w ds x) (hw : wRat x ≤ 1048576) :
    Calls Try.prog 22 #[.agg cs.toArray, .agg ds.toArray] w fun e w' => e = .returned (.bool true) ∧ More w w' := by
  have HW := Lib.hid hw; clear hw
  obtain ⟨k0, d0, rfl, f0, e0⟩ := at_prod hv
  have f1 := e0; clear e0
  obtain ⟨z0a1, z0n1, z0c1, rfl⟩ := sh_BigInt f0
  have F0 := Lib.hid f0; clear f0
  obtain ⟨z1a0, z1n0, z1c0, rfl⟩ := sh_slice f1
  have F1 := Lib.hid f1; clear f1
  obtain ⟨sk0, sd0, rfl, sf0, se0⟩ := at_prod hv'
  have sf1 := se0; clear se0
  obtain ⟨sz0a1, sz0n1, sz0c1, rfl⟩ := sh_BigInt sf0
  have G0 := Lib.hid sf0; clear sf0
  obtain ⟨sz1a0, sz1n0, sz1c0, rfl⟩ := sh_slice sf1
  have G1 := Lib.hid sf1; clear sf1
  show Calls Try.prog 22 #[.agg #[.bool x.1.1, .slice z0a1 z0n1 z0c1, .slice z1a0 z1n0 z1c0], .agg #[.bool x.1.1, .slice sz0a1 sz0n1 sz0c1, .slice sz1a0 sz1n0 sz1c0]] w _
  have HX : More ((w.alloc (.cells #[.bool x.1.1, .slice z0a1 z0n1 z0c1, .slice z1a0 z1n0 z1c0] 55)).alloc (.cells #[.bool x.1.1, .slice sz0a1 sz0n1 sz0c1, .slice sz1a0 sz1n0 sz1c0] 55)) ((w.alloc (.cells #[.bool x.1.1, .slice z0a1 z0n1 z0c1, .slice z1a0 z1n0 z1c0] 55)).alloc (.cells #[.bool x.1.1, .slice sz0a1 sz0n1 sz0c1, .slice sz1a0 sz1n0 sz1c0] 55)) := More.refl _
  have HB : ∀ w', More ((w.alloc (.cells #[.bool x.1.1, .slice z0a1 z0n1 z0c1, .slice z1a0 z1n0 z1c0] 55)).alloc (.cells #[.bool x.1.1, .slice sz0a1 sz0n1 sz0c1, .slice sz1a0 sz1n0 sz1c0] 55)) w' → w'.cell? ⟨w.heap.size, 0, none⟩ = some (.bool x.1.1) ∧ w'.cell? ⟨w.heap.size, 1, none⟩ = some (.slice z0a1 z0n1 z0c1) ∧ w'.cell? ⟨w.heap.size, 2, none⟩ = some (.slice z1a0 z1n0 z1c0) ∧ (∀ j, w'.frozen? ⟨w.heap.size, j, none⟩ = false) ∧ w'.cell? ⟨w.heap.size + 1, 0, none⟩ = some (.bool x.1.1) ∧ w'.cell? ⟨w.heap.size + 1, 1, none⟩ = some (.slice sz0a1 sz0n1 sz0c1) ∧ w'.cell? ⟨w.heap.size + 1, 2, none⟩ = some (.slice sz1a0 sz1n0 sz1c0) ∧ (∀ j, w'.frozen? ⟨w.heap.size + 1, j, none⟩ = false) := fun w' h => ⟨box_new (by simp) (More.un h) 0, box_new (by simp) (More.un h) 1, box_new (by simp) (More.un h) 2, fun j => box_free (by simp) (More.un h) j, box_new (by simp) h 0, box_new (by simp) h 1, box_new (by simp) h 2, fun j => box_free (by simp) h j⟩
  go_enter Try.func22, Try.ntmps22
  go_wp2_with fail
  refine (laws_eqBigInt _ _ x.1 _ (Ty.at_more F0.out mC) (Ty.at_more G0.out mC) (by have := HW.out; unfold wRat  at this; omega)).mono ?_
  rintro e w1 ⟨rfl, hb1⟩; have HX : More ((w.alloc (.cells #[.bool x.1.1, .slice z0a1 z0n1 z0c1, .slice z1a0 z1n0 z1c0] 55)).alloc (.cells #[.bool x.1.1, .slice sz0a1 sz0n1 sz0c1, .slice sz1a0 sz1n0 sz1c0] 55)) _ := More.trans (by assumption) hb1; have HBw := HB _ HX
  go_wp2_with fail
  refine (laws_eqIntS _ _ x.2 _ (Ty.at_more F1.out mC) (Ty.at_more G1.out mC) (by have := HW.out; unfold wRat wIntS at this; omega)).mono ?_
  rintro e w2 ⟨rfl, hb1⟩; have HX : More ((w.alloc (.cells #[.bool x.1.1, .slice z0a1 z0n1 z0c1, .slice z1a0 z1n0 z1c0] 55)).alloc (.cells #[.bool x.1.1, .slice sz0a1 sz0n1 sz0c1, .slice sz1a0 sz1n0 sz1c0] 55)) _ := More.trans (by assumption) hb1; have HBw := HB _ HX
  go_wp2_with fail
  go_ret
  exact ⟨rfl, mC⟩
end Go.Proofs.Ytnndjbomfcacfaa
