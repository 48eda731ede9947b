/- MotionPoints: the points of a motion. -/
import Derived.Test.YteihkhniibncnaaOpt
import Derived.Test.YteihkhniibncnaaGBase
namespace Go.Proofs.Yteihkhniibncnaa
open Go.RowKit
theorem ListOwn.one {α : Type} {S : Ty α} {B : Nat} {e : TypeId} {w : World} {C : Array Value} {y : α} {N : Nat} (hN : w.heap.size = N) (hB : B ≤ w.heap.size) (hy : S.fresh B w C.toList y) : ListOwn S B e (w.alloc (.cells C e)) (.slice (some ⟨N, 0, none⟩) 1 1) [y] := by
  subst hN
  obtain ⟨bs, h1, h2, h3⟩ := hy
  have hl : C.toList.length = S.size := S.len (S.own_rd h1)
  refine ⟨C.toList, [bs], World.ownsRow_lit (size := S.size) w C 1 hB (by unfold maxLen; omega) (by rw [Nat.one_mul]; simpa using hl), rfl, by simpa using h2, fun b hb => ⟨h3 b (by simpa using hb), fun h => ?_⟩, fun i x b hx hb => ?_⟩
  · have h4 := S.own_lt h1 b (by simpa using hb)
    simp [Value.ownBlock] at h
    omega
  · cases i with
    | zero =>
      simp at hx hb
      subst hx
      subst hb
      rw [Nat.zero_mul, List.drop_zero, List.take_of_length_le (Nat.le_of_eq hl)]
      exact Ty.own_more h1 (Turns.more ((Turns.refl [] w).alloc _))
    | succ i => simp at hx
def motL (p : QPlacement) (l : List QStep) : List QP := p.2 :: l.map (fun s => s.2)
theorem motL_next {p : QPlacement} {l : List QStep} {k : Nat} {x : QStep} (h : l[k]? = some x) : motL p (l.take (k + 1)) = motL p (l.take k) ++ [x.2] := by
  unfold motL
  rw [List.take_add_one, h]
  simp
theorem motL_len (p : QPlacement) (l : List QStep) : (motL p l).length = l.length + 1 := by unfold motL; simp
theorem motL_all (p : QPlacement) (l : List QStep) : motL p (l.take l.length) = motL p l := by rw [List.take_length]
theorem motL_w (p : QPlacement) (l : List QStep) : wsum wPoint (motL p l) = wPoint p.2 + wsum wStep l := by
  unfold motL wsum
  rw [List.map_cons, List.sum_cons, List.map_map]
  rfl
theorem motL_bd {p : QPlacement} {l : List QStep} (hp : wPlacement p ≤ 1048576) (hl : wStepS l ≤ 1048576) : wPointS (motL p l) ≤ 67108864 ∧ ∀ x ∈ motL p l, wPoint x ≤ 1048576 := by
  unfold wPlacement at hp
  unfold wStepS at hl
  refine ⟨?_, fun x hx => ?_⟩
  · unfold wPointS
    rw [motL_w, motL_len]
    omega
  · unfold motL at hx
    rcases List.mem_cons.1 hx with rfl | hx
    · exact hp
    · obtain ⟨s, hs, rfl⟩ := List.mem_map.1 hx
      obtain ⟨i, hi, rfl⟩ := List.getElem_of_mem hs
      have := wsum_el (f := wStep) (List.getElem?_eq_getElem hi)
      have h2 : wStep l[i] = wPoint (l[i]).2 := rfl
      omega
theorem infoPnt : (Try.prog.info? 55).map (fun i => (i.zero, i.size, i.bytes)) = some (some (.agg #[.bool false, .slice none 0 0, .slice none 0 0, .bool false, .slice none 0 0, .slice none 0 0]), 6, 112) := by kernel_rfl
set_option maxRecDepth 4000 in
set_option maxHeartbeats 6400000 in
theorem impl_MotionPoints (cs : List Value) (p : QPlacement) (v : Value) (l : List QStep) (w : World) (hv0 : tPlacement.at w cs p) (hw0 : wPlacement p ≤ 1048576) (hv1 : tStepS.at w [v] l) (hw1 : wStepS l ≤ 1048576) :
    Calls Try.prog 24 #[.agg cs.toArray, v] w fun e w' => ∃ v', e = .returned v' ∧ More w w' ∧ tPointS.fresh w.heap.size w' [v'] (motL p l) := by
  obtain ⟨k0, d0, rfl, f0, e0⟩ := at_prod hv0
  obtain rfl := sh_int f0
  have e0 : tPoint.at w _ p.2 := e0
  obtain ⟨za2, zn2, zc2, za3, zn3, zc3, za5, zn5, zc5, za6, zn6, zc6, rfl⟩ := sh_Point e0
  have HP := Lib.hid e0; have HWp : Hid (wPoint p.2 ≤ 1048576) := Lib.hid (by unfold wPlacement at hw0; exact hw0); clear hv0 f0 e0
  obtain ⟨ao, cap, rfl⟩ := sl_len hv1
  have HV := Lib.hid hv1; clear hv1
  have HBD := Lib.hid (motL_bd hw0 hw1); clear hw0
  have HWl : Hid (l.length + wsum wStep l ≤ 1048576) := Lib.hid hw1
  have hl : l.length ≤ 1048576 := by have := HWl.out; omega
  clear hw1
  obtain ⟨n, hn⟩ : ∃ n, n = l.length := ⟨_, rfl⟩
  rw [← hn] at HV hl ⊢
  have HN := Lib.hid hn; clear hn
  obtain ⟨i0, hi, hz0, hz1, hz2⟩ := info_parts infoPnt
  show Calls Try.prog 24 #[.agg #[.int .i64 p.1, .bool p.2.1.1.1, .slice za2 zn2 zc2, .slice za3 zn3 zc3, .bool p.2.2.1.1, .slice za5 zn5 zc5, .slice za6 zn6 zc6], .slice ao n cap] w _
  have HX : More (w.alloc (.cells #[.int .i64 p.1, .bool p.2.1.1.1, .slice za2 zn2 zc2, .slice za3 zn3 zc3, .bool p.2.2.1.1, .slice za5 zn5 zc5, .slice za6 zn6 zc6] 57)) (w.alloc (.cells #[.int .i64 p.1, .bool p.2.1.1.1, .slice za2 zn2 zc2, .slice za3 zn3 zc3, .bool p.2.2.1.1, .slice za5 zn5 zc5, .slice za6 zn6 zc6] 57)) := More.refl _
  have HB : ∀ w', More (w.alloc (.cells #[.int .i64 p.1, .bool p.2.1.1.1, .slice za2 zn2 zc2, .slice za3 zn3 zc3, .bool p.2.2.1.1, .slice za5 zn5 zc5, .slice za6 zn6 zc6] 57)) w' → w'.cell? ⟨w.heap.size, 0, none⟩ = some (.int .i64 p.1) ∧ w'.cell? ⟨w.heap.size, 1, none⟩ = some (.bool p.2.1.1.1) ∧ w'.cell? ⟨w.heap.size, 2, none⟩ = some (.slice za2 zn2 zc2) ∧ w'.cell? ⟨w.heap.size, 3, none⟩ = some (.slice za3 zn3 zc3) ∧ w'.cell? ⟨w.heap.size, 4, none⟩ = some (.bool p.2.2.1.1) ∧ w'.cell? ⟨w.heap.size, 5, none⟩ = some (.slice za5 zn5 zc5) ∧ w'.cell? ⟨w.heap.size, 6, none⟩ = some (.slice za6 zn6 zc6) ∧ (∀ j, w'.frozen? ⟨w.heap.size, j, none⟩ = false) := fun w' h => ⟨box_new (by simp) h 0, box_new (by simp) h 1, box_new (by simp) h 2, box_new (by simp) h 3, box_new (by simp) h 4, box_new (by simp) h 5, box_new (by simp) h 6, fun j => box_free (by simp) h j⟩
  go_enter Try.func24, Try.ntmps24
  go_wp2_with (first | (go_at_call 70; (with_reducible refine (impl_ownPoint [.bool p.2.1.1.1, .slice za2 zn2 zc2, .slice za3 zn3 zc3, .bool p.2.2.1.1, .slice za5 zn5 zc5, .slice za6 zn6 zc6] p.2.1 p.2.2 _ (Ty.at_more HP.out mC) HWp.out).mono ?_); rintro e w1 ⟨cs1, rfl, hb1, f1⟩; obtain ⟨c1a, c1b, c1c, c1d, c1e, c1f, c1g, c1h, c1i, c1j, c1k, c1l, rfl⟩ := sh_Point (Ty.fresh_at f1); have FP1 := Lib.hid f1; clear f1))
  go_loopw [5, 14] (fun v i wr => ∃ k : Nat, k ≤ n ∧ i = .int .i64 k ∧ More w wr ∧ Hid (ListOwn tPoint w.heap.size 55 wr v (motL p (l.take k)))) (fun _ i _ => n - (intOf i).toNat)
  case atStart => exact ⟨0, Nat.zero_le _, rfl, mC, Lib.hid (ListOwn.one rfl (More.size (show More w w1 from mC)) (Ty.fresh_mono FP1.out (by simp)))⟩
  case round =>
    obtain ⟨k, hk, rfl, hm, HO⟩ := hrel
    try clear HB
    try clear HX
    by_cases hlt : k < n
    · have hlt' : (k : Int) < (n : Int) := by omega
      obtain ⟨b, off, x, sa2, sn2, sc2, sa3, sn3, sc3, sa5, sn5, sc5, sa6, sn6, sc6, rfl, hblt, hx, hat, p0, p1, p2, p3, p4, p5, p6⟩ := el_Step (Ty.at_more HV.out hm) (k := k) (by rw [← HN.out]; exact hlt)
      obtain ⟨_, _, eh, _, ht⟩ := at_prod hat
      have HT : Hid (tPoint.at wr [.bool x.2.1.1.1, .slice sa2 sn2 sc2, .slice sa3 sn3 sc3, .bool x.2.2.1.1, .slice sa5 sn5 sc5, .slice sa6 sn6 sc6] x.2) := Lib.hid (by
        have h := hat
        obtain ⟨a1, a2, e1, h1, h2⟩ := at_prod h
        obtain rfl := sh_int h1
        simp only [List.cons_append, List.nil_append, List.cons.injEq, true_and] at e1
        rw [e1]
        exact h2)
      have HX := Lib.hid hx; clear hx hat eh ht
      have hlen : (motL p (l.take k)).length ≤ 2097152 := by rw [motL_len, List.length_take]; omega
      have HLen := Lib.hid hlen; clear hlen
      have HWx : Hid (wPoint x.2 ≤ 1048576) := Lib.hid (by have := wsum_el (f := wStep) HX.out; have := HWl.out; have h2 : wStep x = wPoint x.2 := rfl; omega)
      go_wp2_with (first | (go_at_call 70; (with_reducible refine (impl_ownPoint [.bool x.2.1.1.1, .slice sa2 sn2 sc2, .slice sa3 sn3 sc3, .bool x.2.2.1.1, .slice sa5 sn5 sc5, .slice sa6 sn6 sc6] x.2.1 x.2.2 _ (Ty.at_more HT.out mC) HWx.out).mono ?_); rintro e w2 ⟨cs2, rfl, hb2, f2⟩; obtain ⟨c2a, c2b, c2c, c2d, c2e, c2f, c2g, c2h, c2i, c2j, c2k, c2l, rfl⟩ := sh_Point (Ty.fresh_at f2); have FP2 := Lib.hid f2; clear f2) | (at_builtin; refine wpList_pushOwn tPoint wr rfl _ _ 52 rfl w.heap.size 55 i0 (.agg #[.bool false, .slice none 0 0, .slice none 0 0, .bool false, .slice none 0 0, .slice none 0 0]) 112 Try.underlying52 hi hz0 hz1 hz2 rfl (by decide) rfl HO.out mC rfl rfl (Ty.fresh_mono FP2.out (by simp)) HLen (by decide) (Lib.hid hm.size) ?_; intro v' w3 hl2 hmw; have hw3 : More w w3 := hmw _ rfl mC; have HL2 := Lib.hid hl2; clear hl2 hmw))
      go_roundw
      case rel => exact ⟨k + 1, by omega, by go_num, hw3, Lib.hid (by rw [motL_next HX.out]; exact HL2.out)⟩
      case measure => simp [intOf]; omega
    · have hlt' : ¬ (k : Int) < (n : Int) := by omega
      go_wp2_with fail
      go_ret
      exact ⟨_, rfl, hm, by
        have h1 := HO.out.fresh
        rw [List.take_of_length_le (by rw [← HN.out]; omega)] at h1
        exact h1⟩
set_option maxRecDepth 4000 in
set_option maxHeartbeats 6400000 in
theorem spec_MotionPoints (cs : List Value) (p : QPlacement) (v : Value) (l : List QStep) (w : World) (hv0 : tPlacement.at w cs p) (hw0 : wPlacement p ≤ 1048576) (hv1 : tStepS.at w [v] l) (hw1 : wStepS l ≤ 1048576) :
    Calls Try.prog 21 #[.agg cs.toArray, v] w fun e w' => ∃ v', e = .returned v' ∧ More w w' ∧ tPointS.fresh w.heap.size w' [v'] (motL p l) := by
  obtain ⟨k0, d0, rfl, f0, e0⟩ := at_prod hv0
  obtain rfl := sh_int f0
  have e0 : tPoint.at w _ p.2 := e0
  obtain ⟨za2, zn2, zc2, za3, zn3, zc3, za5, zn5, zc5, za6, zn6, zc6, rfl⟩ := sh_Point e0
  have HP := Lib.hid e0; have HWp : Hid (wPoint p.2 ≤ 1048576) := Lib.hid (by unfold wPlacement at hw0; exact hw0); clear hv0 f0 e0
  obtain ⟨ao, cap, rfl⟩ := sl_len hv1
  have HV := Lib.hid hv1; clear hv1
  have HBD := Lib.hid (motL_bd hw0 hw1); clear hw0
  have HWl : Hid (l.length + wsum wStep l ≤ 1048576) := Lib.hid hw1
  have hl : l.length ≤ 1048576 := by have := HWl.out; omega
  clear hw1
  obtain ⟨n, hn⟩ : ∃ n, n = l.length := ⟨_, rfl⟩
  rw [← hn] at HV hl ⊢
  have HN := Lib.hid hn; clear hn
  obtain ⟨i0, hi, hz0, hz1, hz2⟩ := info_parts infoPnt
  show Calls Try.prog 21 #[.agg #[.int .i64 p.1, .bool p.2.1.1.1, .slice za2 zn2 zc2, .slice za3 zn3 zc3, .bool p.2.2.1.1, .slice za5 zn5 zc5, .slice za6 zn6 zc6], .slice ao n cap] w _
  have HX : More (w.alloc (.cells #[.int .i64 p.1, .bool p.2.1.1.1, .slice za2 zn2 zc2, .slice za3 zn3 zc3, .bool p.2.2.1.1, .slice za5 zn5 zc5, .slice za6 zn6 zc6] 57)) (w.alloc (.cells #[.int .i64 p.1, .bool p.2.1.1.1, .slice za2 zn2 zc2, .slice za3 zn3 zc3, .bool p.2.2.1.1, .slice za5 zn5 zc5, .slice za6 zn6 zc6] 57)) := More.refl _
  have HB : ∀ w', More (w.alloc (.cells #[.int .i64 p.1, .bool p.2.1.1.1, .slice za2 zn2 zc2, .slice za3 zn3 zc3, .bool p.2.2.1.1, .slice za5 zn5 zc5, .slice za6 zn6 zc6] 57)) w' → w'.cell? ⟨w.heap.size, 0, none⟩ = some (.int .i64 p.1) ∧ w'.cell? ⟨w.heap.size, 1, none⟩ = some (.bool p.2.1.1.1) ∧ w'.cell? ⟨w.heap.size, 2, none⟩ = some (.slice za2 zn2 zc2) ∧ w'.cell? ⟨w.heap.size, 3, none⟩ = some (.slice za3 zn3 zc3) ∧ w'.cell? ⟨w.heap.size, 4, none⟩ = some (.bool p.2.2.1.1) ∧ w'.cell? ⟨w.heap.size, 5, none⟩ = some (.slice za5 zn5 zc5) ∧ w'.cell? ⟨w.heap.size, 6, none⟩ = some (.slice za6 zn6 zc6) ∧ (∀ j, w'.frozen? ⟨w.heap.size, j, none⟩ = false) := fun w' h => ⟨box_new (by simp) h 0, box_new (by simp) h 1, box_new (by simp) h 2, box_new (by simp) h 3, box_new (by simp) h 4, box_new (by simp) h 5, box_new (by simp) h 6, fun j => box_free (by simp) h j⟩
  go_enter Try.func21, Try.ntmps21
  go_wp2_with (first | (go_at_call 67; (with_reducible refine (spec_l05Copy [.bool p.2.1.1.1, .slice za2 zn2 zc2, .slice za3 zn3 zc3, .bool p.2.2.1.1, .slice za5 zn5 zc5, .slice za6 zn6 zc6] p.2.1 p.2.2 _ (Ty.at_more HP.out mC) HWp.out).mono ?_); rintro e w1 ⟨cs1, rfl, hb1, f1⟩; obtain ⟨c1a, c1b, c1c, c1d, c1e, c1f, c1g, c1h, c1i, c1j, c1k, c1l, rfl⟩ := sh_Point (Ty.fresh_at f1); have FP1 := Lib.hid f1; clear f1))
  go_loopw [5, 14] (fun v i wr => ∃ k : Nat, k ≤ n ∧ i = .int .i64 k ∧ More w wr ∧ Hid (ListOwn tPoint w.heap.size 55 wr v (motL p (l.take k)))) (fun _ i _ => n - (intOf i).toNat)
  case atStart => exact ⟨0, Nat.zero_le _, rfl, mC, Lib.hid (ListOwn.one rfl (More.size (show More w w1 from mC)) (Ty.fresh_mono FP1.out (by simp)))⟩
  case round =>
    obtain ⟨k, hk, rfl, hm, HO⟩ := hrel
    try clear HB
    try clear HX
    by_cases hlt : k < n
    · have hlt' : (k : Int) < (n : Int) := by omega
      obtain ⟨b, off, x, sa2, sn2, sc2, sa3, sn3, sc3, sa5, sn5, sc5, sa6, sn6, sc6, rfl, hblt, hx, hat, p0, p1, p2, p3, p4, p5, p6⟩ := el_Step (Ty.at_more HV.out hm) (k := k) (by rw [← HN.out]; exact hlt)
      obtain ⟨_, _, eh, _, ht⟩ := at_prod hat
      have HT : Hid (tPoint.at wr [.bool x.2.1.1.1, .slice sa2 sn2 sc2, .slice sa3 sn3 sc3, .bool x.2.2.1.1, .slice sa5 sn5 sc5, .slice sa6 sn6 sc6] x.2) := Lib.hid (by
        have h := hat
        obtain ⟨a1, a2, e1, h1, h2⟩ := at_prod h
        obtain rfl := sh_int h1
        simp only [List.cons_append, List.nil_append, List.cons.injEq, true_and] at e1
        rw [e1]
        exact h2)
      have HX := Lib.hid hx; clear hx hat eh ht
      have hlen : (motL p (l.take k)).length ≤ 2097152 := by rw [motL_len, List.length_take]; omega
      have HLen := Lib.hid hlen; clear hlen
      have HWx : Hid (wPoint x.2 ≤ 1048576) := Lib.hid (by have := wsum_el (f := wStep) HX.out; have := HWl.out; have h2 : wStep x = wPoint x.2 := rfl; omega)
      go_wp2_with (first | (go_at_call 67; (with_reducible refine (spec_l05Copy [.bool x.2.1.1.1, .slice sa2 sn2 sc2, .slice sa3 sn3 sc3, .bool x.2.2.1.1, .slice sa5 sn5 sc5, .slice sa6 sn6 sc6] x.2.1 x.2.2 _ (Ty.at_more HT.out mC) HWx.out).mono ?_); rintro e w2 ⟨cs2, rfl, hb2, f2⟩; obtain ⟨c2a, c2b, c2c, c2d, c2e, c2f, c2g, c2h, c2i, c2j, c2k, c2l, rfl⟩ := sh_Point (Ty.fresh_at f2); have FP2 := Lib.hid f2; clear f2) | (at_builtin; refine wpList_pushOwn tPoint wr rfl _ _ 52 rfl w.heap.size 55 i0 (.agg #[.bool false, .slice none 0 0, .slice none 0 0, .bool false, .slice none 0 0, .slice none 0 0]) 112 Try.underlying52 hi hz0 hz1 hz2 rfl (by decide) rfl HO.out mC rfl rfl (Ty.fresh_mono FP2.out (by simp)) HLen (by decide) (Lib.hid hm.size) ?_; intro v' w3 hl2 hmw; have hw3 : More w w3 := hmw _ rfl mC; have HL2 := Lib.hid hl2; clear hl2 hmw))
      go_roundw
      case rel => exact ⟨k + 1, by omega, by go_num, hw3, Lib.hid (by rw [motL_next HX.out]; exact HL2.out)⟩
      case measure => simp [intOf]; omega
    · have hlt' : ¬ (k : Int) < (n : Int) := by omega
      go_wp2_with fail
      go_ret
      exact ⟨_, rfl, hm, by
        have h1 := HO.out.fresh
        rw [List.take_of_length_le (by rw [← HN.out]; omega)] at h1
        exact h1⟩
end Go.Proofs.Yteihkhniibncnaa
