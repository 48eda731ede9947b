/- CellSide's law: the drawn region 8, its twenty orders. -/
import Derived.Test.YtnndjbomfcacfaaCsr
import Derived.Test.YtnndjbomfcacfaaCsl
import Derived.Test.YtnndjbomfcacfaaGToS
import Derived.Test.YtnndjbomfcacfaaGHelp
import Derived.Test.YtnndjbomfcacfaaLdm
import Derived.Test.YtnndjbomfcacfaaGCut
import Derived.Deep.RegionHeld3
namespace Go.Proofs.Ytnndjbomfcacfaa
open Go.RowKit
set_option maxRecDepth 8000 in
set_option maxHeartbeats 40000000 in
theorem csrA {Q : Exit → Act → World → Prop} {t0 t1 t4 t5 t6 t7 t8 t9 t10 t11 t12 t13 t14 t15 t16 t17 t18 t19 t20 t21 t22 t23 t24 t25 t26 t27 t28 t29 t30 t31 t32 t33 t34 t35 t36 t37 t38 : Value} {rest : List Value} (w0 : World) (x : QCell) (p : QR) (N0 N1 : Nat) (s0a1 : Option Addr) (s0n1 : Nat) (s0c1 : Nat) (s0a2 : Option Addr) (s0n2 : Nat) (s0c2 : Nat) (s0a4 : Option Addr) (s0n4 : Nat) (s0c4 : Nat) (s0a5 : Option Addr) (s0n5 : Nat) (s0c5 : Nat) (s0a7 : Option Addr) (s0n7 : Nat) (s0c7 : Nat) (s0a8 : Option Addr) (s0n8 : Nat) (s0c8 : Nat) (s0a10 : Option Addr) (s0n10 : Nat) (s0c10 : Nat) (s0a11 : Option Addr) (s0n11 : Nat) (s0c11 : Nat) (s0a13 : Option Addr) (s0n13 : Nat) (s0c13 : Nat) (s0a14 : Option Addr) (s0n14 : Nat) (s0c14 : Nat) (s0a16 : Option Addr) (s0n16 : Nat) (s0c16 : Nat) (s0a17 : Option Addr) (s0n17 : Nat) (s0c17 : Nat) (s1a1 : Option Addr) (s1n1 : Nat) (s1c1 : Nat) (s1a2 : Option Addr) (s1n2 : Nat) (s1c2 : Nat) (r1 r2 : QR) (f0 : Bool)
    (HV0 : Hid (tCell.at w0 [.bool x.1.1.1, .slice s0a1 s0n1 s0c1, .slice s0a2 s0n2 s0c2, .bool x.2.1.1.1, .slice s0a4 s0n4 s0c4, .slice s0a5 s0n5 s0c5, .bool x.2.2.1.1.1, .slice s0a7 s0n7 s0c7, .slice s0a8 s0n8 s0c8, .bool x.2.2.2.1.1.1, .slice s0a10 s0n10 s0c10, .slice s0a11 s0n11 s0c11, .bool x.2.2.2.2.1.1.1, .slice s0a13 s0n13 s0c13, .slice s0a14 s0n14 s0c14, .bool x.2.2.2.2.2.1.1, .slice s0a16 s0n16 s0c16, .slice s0a17 s0n17 s0c17] x)) (Hs0 : Hid (wCell x ≤ 1048576)) (HV1 : Hid (tRat.at w0 [.bool p.1.1, .slice s1a1 s1n1 s1c1, .slice s1a2 s1n2 s1c2] p)) (Hs1 : Hid (wRat p ≤ 1048576)) (ER1 : Hid (r1 = (csF x p).1)) (ER2 : Hid (r2 = (csF x p).2.1)) (EF0 : Hid (f0 = (csF x p).2.2))
    (R0 : ∀ w', More w0 w' → w'.rangeAt (N0) 0 [.bool x.1.1.1, .slice s0a1 s0n1 s0c1, .slice s0a2 s0n2 s0c2, .bool x.2.1.1.1, .slice s0a4 s0n4 s0c4, .slice s0a5 s0n5 s0c5, .bool x.2.2.1.1.1, .slice s0a7 s0n7 s0c7, .slice s0a8 s0n8 s0c8, .bool x.2.2.2.1.1.1, .slice s0a10 s0n10 s0c10, .slice s0a11 s0n11 s0c11, .bool x.2.2.2.2.1.1.1, .slice s0a13 s0n13 s0c13, .slice s0a14 s0n14 s0c14, .bool x.2.2.2.2.2.1.1, .slice s0a16 s0n16 s0c16, .slice s0a17 s0n17 s0c17]) (R1 : ∀ w', More w0 w' → w'.cell? ⟨N1, 0, none⟩ = some (.bool p.1.1) ∧ w'.cell? ⟨N1, 1, none⟩ = some (.slice s1a1 s1n1 s1c1) ∧ w'.cell? ⟨N1, 2, none⟩ = some (.slice s1a2 s1n2 s1c2))
    (hP : ∀ c a (d : Nat) v w, Q (.panic c) (Act.put a (some d) v) w → Q (.panic c) a w)
    (hQ : ∀ (u30 u31 u32 u33 u34 u35 u36 u37 u38 : Value) (P9 Q9 : Nat) (ya1 : Option Addr) (yn1 yc1 : Nat) (yd1 : Option Addr) (ym1 ye1 : Nat) (ya2 : Option Addr) (yn2 yc2 : Nat) (yd2 : Option Addr) (ym2 ye2 : Nat) (w' : World), Two w0 w' P9 Q9 (.bool r1.1.1) (.slice ya1 yn1 yc1) (.slice yd1 ym1 ye1) r1 (.bool r2.1.1) (.slice ya2 yn2 yc2) (.slice yd2 ym2 ye2) r2 → Q .normal ⟨(t0 :: t1 :: .pointer (some ⟨N0, 0, none⟩) :: .pointer (some ⟨N1, 0, none⟩) :: t4 :: t5 :: .pointer (some ⟨P9, 0, none⟩) :: .pointer (some ⟨Q9, 0, none⟩) :: .bool f0 :: t9 :: t10 :: t11 :: t12 :: t13 :: t14 :: t15 :: t16 :: t17 :: t18 :: t19 :: t20 :: t21 :: t22 :: t23 :: t24 :: t25 :: t26 :: t27 :: t28 :: t29 :: u30 :: u31 :: u32 :: u33 :: u34 :: u35 :: u36 :: u37 :: u38 :: rest).toArray, []⟩ w') :
    (regOf Try.f4 8).wp Try.prog Q ⟨(t0 :: t1 :: .pointer (some ⟨N0, 0, none⟩) :: .pointer (some ⟨N1, 0, none⟩) :: t4 :: t5 :: t6 :: t7 :: t8 :: t9 :: t10 :: t11 :: t12 :: t13 :: t14 :: t15 :: t16 :: t17 :: t18 :: t19 :: t20 :: t21 :: t22 :: t23 :: t24 :: t25 :: t26 :: t27 :: t28 :: t29 :: t30 :: t31 :: t32 :: t33 :: t34 :: t35 :: t36 :: t37 :: t38 :: rest).toArray, []⟩ w0 := by
 conv => arg 2; whnf
 obtain ⟨V0, hV0⟩ : ∃ V, (Value.agg #[.bool x.1.1.1, .slice s0a1 s0n1 s0c1, .slice s0a2 s0n2 s0c2, .bool x.2.1.1.1, .slice s0a4 s0n4 s0c4, .slice s0a5 s0n5 s0c5, .bool x.2.2.1.1.1, .slice s0a7 s0n7 s0c7, .slice s0a8 s0n8 s0c8, .bool x.2.2.2.1.1.1, .slice s0a10 s0n10 s0c10, .slice s0a11 s0n11 s0c11, .bool x.2.2.2.2.1.1.1, .slice s0a13 s0n13 s0c13, .slice s0a14 s0n14 s0c14, .bool x.2.2.2.2.2.1.1, .slice s0a16 s0n16 s0c16, .slice s0a17 s0n17 s0c17]) = V := ⟨_, rfl⟩
 have hV0 := Lib.hid hV0
 have HQ := Lib.hid hQ; clear hQ
 refine wp_region_held_drew (S := (fun w' => More w0 w')) (by kernel_rfl) ?_ (fun hHeld => ?_)
 · first | exact More.refl _ | exact mC
 refine tk (hQ := fun _ _ _ h => hP _ _ _ _ _ h) (v := V0) 0 ⟨some 31, _, _, _, _, _⟩ rfl ?_ (fun w9 hSw => by rw [← hV0.out]; exact run_ld _ _ rfl (N0) 0 rfl [.bool x.1.1.1, .slice s0a1 s0n1 s0c1, .slice s0a2 s0n2 s0c2, .bool x.2.1.1.1, .slice s0a4 s0n4 s0c4, .slice s0a5 s0n5 s0c5, .bool x.2.2.1.1.1, .slice s0a7 s0n7 s0c7, .slice s0a8 s0n8 s0c8, .bool x.2.2.2.1.1.1, .slice s0a10 s0n10 s0c10, .slice s0a11 s0n11 s0c11, .bool x.2.2.2.2.1.1.1, .slice s0a13 s0n13 s0c13, .slice s0a14 s0n14 s0c14, .bool x.2.2.2.2.2.1.1, .slice s0a16 s0n16 s0c16, .slice s0a17 s0n17 s0c17] _ (R0 w9 hSw) Try.underlying50 rfl (by kernel_rfl))
 (try simp only [Act.put, tkA, tkB, tkC])
 refine tk (hQ := fun _ _ _ h => hP _ _ _ _ _ h) (v := ?_) 2 ⟨some 33, _, _, _, _, _⟩ rfl ?_ ?_
 rotate_left 2
 · (intro w hSw; (try dsimp only at hSw); go_simp; (try with_reducible rfl))
 (try simp only [Act.put, tkA, tkB, tkC])
 refine wpAnyH_ready (rs := [1, 9, 10]) (by kernel_rfl) (by simp) ?_
 refine AllReadyH.cons (o := ⟨some 32, _, _, _, _, _⟩) rfl (fun K hK => ?_) ?_
 ·
  go_simp
  (go_at_call 19; (with_reducible refine (calls_arg hV0.out (laws_toCell _ x _ (Ty.at_more HV0.out mC) Hs0.out)).mono ?_); rintro e w1 ⟨c0, rfl, b1, Fc0⟩)
  have z1 : w0.heap.size ≤ w1.heap.size := by have := b1.size; (try simp at this); omega
  refine hK.out _ _ ?_ (fun hHeld => ?_)
  · exact mC2
  clear hK K
  (try simp only [Act.put, tkA, tkB, tkC])
  refine wpAnyH_ready (rs := [3, 9, 10]) (by kernel_rfl) (by simp) ?_
  refine AllReadyH.cons (o := ⟨some 34, _, _, _, _, _⟩) rfl (fun K hK => ?_) ?_
  ·
   go_simp
   (go_at_call 20; (with_reducible refine (laws_toRat _ p _ (Ty.at_more HV1.out mC) Hs1.out).mono ?_); rintro e w2 ⟨c1, rfl, b2, Fc1⟩)
   have z2 : w0.heap.size ≤ w2.heap.size := by have := b2.size; (try simp at this); omega
   refine hK.out _ _ ?_ (fun hHeld => ?_)
   · exact mC2
   clear hK K
   (try simp only [Act.put, tkA, tkB, tkC])
   refine wpAnyH_ready (rs := [4, 9, 10]) (by kernel_rfl) (by simp) ?_
   refine AllReadyH.cons (o := ⟨some 35, _, _, _, _, _⟩) rfl (fun K hK => ?_) ?_
   ·
    go_simp
    (go_at_call 18; (with_reducible refine (spec_CellSideL _ x _ p _ (Ty.at_more (Ty.fresh_at Fc0) (Turns.more (by ((repeat (first | (with_reducible apply Turns.drew) | (with_reducible apply Turns.drewN) | (with_reducible apply Turns.alloc))); (with_reducible refine Turns.via b2 ?_); (repeat (first | (with_reducible apply Turns.drew) | (with_reducible apply Turns.drewN) | (with_reducible apply Turns.alloc))); exact Turns.refl _ _)))) Hs0.out (Ty.at_more (Ty.fresh_at Fc1) (Turns.more (by ((repeat (first | (with_reducible apply Turns.drew) | (with_reducible apply Turns.drewN) | (with_reducible apply Turns.alloc))); exact Turns.refl _ _)))) Hs1.out r1 r2 f0 ER1.out ER2.out EF0.out).mono ?_); rintro e w3 ⟨ya1, yn1, yc1, yd1, ym1, ye1, ya2, yn2, yc2, yd2, ym2, ye2, rfl, b3, F9⟩; have F9h := Lib.hid F9; clear F9)
    have z3 : w0.heap.size ≤ w3.heap.size := by have := b3.size; (try simp at this); omega
    refine hK.out _ _ ?_ (fun hHeld => ?_)
    · exact mC2
    clear hK K
    (try simp only [Act.put, tkA, tkB, tkC])
    refine tk (hQ := fun _ _ _ h => hP _ _ _ _ _ h) (v := ?_) 5 ⟨some 30, _, _, _, _, _⟩ rfl ?_ ?_
    rotate_left 2
    · (intro w hSw; (try dsimp only at hSw); go_simp; (try with_reducible rfl))
    (try simp only [Act.put, tkA, tkB, tkC])
    refine tk (hQ := fun _ _ _ h => hP _ _ _ _ _ h) (v := ?_) 6 ⟨some 36, _, _, _, _, _⟩ rfl ?_ ?_
    rotate_left 2
    · (intro w hSw; (try dsimp only at hSw); go_simp; (try with_reducible rfl))
    (try simp only [Act.put, tkA, tkB, tkC])
    refine tk (hQ := fun _ _ _ h => hP _ _ _ _ _ h) (v := ?_) 7 ⟨some 37, _, _, _, _, _⟩ rfl ?_ ?_
    rotate_left 2
    · (intro w hSw; (try dsimp only at hSw); go_simp; (try with_reducible rfl))
    (try simp only [Act.put, tkA, tkB, tkC])
    refine tk (hQ := fun _ _ _ h => hP _ _ _ _ _ h) (v := ?_) 8 ⟨some 38, _, _, _, _, _⟩ rfl ?_ ?_
    rotate_left 2
    · (intro w hSw; (try dsimp only at hSw); go_simp; (try with_reducible rfl))
    (try simp only [Act.put, tkA, tkB, tkC])
    refine wpAnyH_ready (rs := [9, 10]) (by kernel_rfl) (by simp) ?_
    refine AllReadyH.cons (o := ⟨some 6, _, _, _, _, _⟩) rfl (fun K hK => ?_) ?_
    ·
     go_simp
     refine hK.out _ _ ?_ (fun hHeld => ?_)
     · exact mC2
     clear hK K
     (try simp only [Act.put, tkA, tkB, tkC])
     refine wpAnyH_ready (rs := [10]) (by kernel_rfl) (by simp) ?_
     refine AllReadyH.cons (o := ⟨some 7, _, _, _, _, _⟩) rfl (fun K hK => ?_) AllReadyH.nil
     go_simp
     refine hK.out _ _ ?_ (fun hHeld => ?_)
     · exact mC2
     clear hK K
     (try simp only [Act.put, tkA, tkB, tkC])
     refine wpAnyH_ready (rs := [11]) (by kernel_rfl) (by simp) ?_
     refine AllReadyH.cons (o := ⟨none, _, _, _, _, _⟩) rfl (fun K hK => ?_) AllReadyH.nil
     go_simp
     refine hK.out _ _ ?_ (fun hHeld => ?_)
     · exact mC2
     clear hK K
     (try simp only [Act.put, tkA, tkB, tkC])
     refine wpAnyH_ready (rs := [12]) (by kernel_rfl) (by simp) ?_
     refine AllReadyH.cons (o := ⟨none, _, _, _, _, _⟩) rfl (fun K hK => ?_) AllReadyH.nil
     go_simp
     refine hK.out _ _ ?_ (fun hHeld => ?_)
     · exact mC2
     clear hK K
     (try simp only [Act.put, tkA, tkB, tkC])
     refine wpAnyH_ready (rs := [13]) (by kernel_rfl) (by simp) ?_
     refine AllReadyH.cons (o := ⟨some 8, _, _, _, _, _⟩) rfl (fun K hK => ?_) AllReadyH.nil
     go_simp
     refine hK.out _ _ ?_ (fun hHeld => ?_)
     · exact mC2
     clear hK K
     (try simp only [Act.put, tkA, tkB, tkC])
     refine wpAnyH_done (by kernel_rfl) ?_ _
     have s1 := b1.size; (try simp at s1); have s2 := b2.size; (try simp at s2); have s3 := b3.size; (try simp at s3)
     refine HQ.out _ _ _ _ _ _ _ _ _ (w3.heap.size) (w3.heap.size + 1) ya1 yn1 yc1 yd1 ym1 ye1 ya2 yn2 yc2 yd2 ym2 ye2 _ ?_
     exact two_ll1 mC F9h.out (by (try simp) <;> omega)
    refine AllReadyH.cons (o := ⟨some 7, _, _, _, _, _⟩) rfl (fun K hK => ?_) AllReadyH.nil
    go_simp
    refine hK.out _ _ ?_ (fun hHeld => ?_)
    · exact mC2
    clear hK K
    (try simp only [Act.put, tkA, tkB, tkC])
    refine wpAnyH_ready (rs := [9]) (by kernel_rfl) (by simp) ?_
    refine AllReadyH.cons (o := ⟨some 6, _, _, _, _, _⟩) rfl (fun K hK => ?_) AllReadyH.nil
    go_simp
    refine hK.out _ _ ?_ (fun hHeld => ?_)
    · exact mC2
    clear hK K
    (try simp only [Act.put, tkA, tkB, tkC])
    refine wpAnyH_ready (rs := [11]) (by kernel_rfl) (by simp) ?_
    refine AllReadyH.cons (o := ⟨none, _, _, _, _, _⟩) rfl (fun K hK => ?_) AllReadyH.nil
    go_simp
    refine hK.out _ _ ?_ (fun hHeld => ?_)
    · exact mC2
    clear hK K
    (try simp only [Act.put, tkA, tkB, tkC])
    refine wpAnyH_ready (rs := [12]) (by kernel_rfl) (by simp) ?_
    refine AllReadyH.cons (o := ⟨none, _, _, _, _, _⟩) rfl (fun K hK => ?_) AllReadyH.nil
    go_simp
    refine hK.out _ _ ?_ (fun hHeld => ?_)
    · exact mC2
    clear hK K
    (try simp only [Act.put, tkA, tkB, tkC])
    refine wpAnyH_ready (rs := [13]) (by kernel_rfl) (by simp) ?_
    refine AllReadyH.cons (o := ⟨some 8, _, _, _, _, _⟩) rfl (fun K hK => ?_) AllReadyH.nil
    go_simp
    refine hK.out _ _ ?_ (fun hHeld => ?_)
    · exact mC2
    clear hK K
    (try simp only [Act.put, tkA, tkB, tkC])
    refine wpAnyH_done (by kernel_rfl) ?_ _
    have s1 := b1.size; (try simp at s1); have s2 := b2.size; (try simp at s2); have s3 := b3.size; (try simp at s3)
    refine HQ.out _ _ _ _ _ _ _ _ _ (w3.heap.size + 1) (w3.heap.size) ya1 yn1 yc1 yd1 ym1 ye1 ya2 yn2 yc2 yd2 ym2 ye2 _ ?_
    exact two_ll2 mC F9h.out (by (try simp) <;> omega)
   refine AllReadyH.cons (o := ⟨some 6, _, _, _, _, _⟩) rfl (fun K hK => ?_) ?_
   ·
    go_simp
    refine hK.out _ _ ?_ (fun hHeld => ?_)
    · exact mC2
    clear hK K
    (try simp only [Act.put, tkA, tkB, tkC])
    refine wpAnyH_ready (rs := [4, 10]) (by kernel_rfl) (by simp) ?_
    refine AllReadyH.cons (o := ⟨some 35, _, _, _, _, _⟩) rfl (fun K hK => ?_) ?_
    ·
     go_simp
     (go_at_call 18; (with_reducible refine (spec_CellSideL _ x _ p _ (Ty.at_more (Ty.fresh_at Fc0) (Turns.more (by ((repeat (first | (with_reducible apply Turns.drew) | (with_reducible apply Turns.drewN) | (with_reducible apply Turns.alloc))); (with_reducible refine Turns.via b2 ?_); (repeat (first | (with_reducible apply Turns.drew) | (with_reducible apply Turns.drewN) | (with_reducible apply Turns.alloc))); exact Turns.refl _ _)))) Hs0.out (Ty.at_more (Ty.fresh_at Fc1) (Turns.more (by ((repeat (first | (with_reducible apply Turns.drew) | (with_reducible apply Turns.drewN) | (with_reducible apply Turns.alloc))); exact Turns.refl _ _)))) Hs1.out r1 r2 f0 ER1.out ER2.out EF0.out).mono ?_); rintro e w3 ⟨ya1, yn1, yc1, yd1, ym1, ye1, ya2, yn2, yc2, yd2, ym2, ye2, rfl, b3, F9⟩; have F9h := Lib.hid F9; clear F9)
     have z3 : w0.heap.size ≤ w3.heap.size := by have := b3.size; (try simp at this); omega
     have N0_3 : Box3 w3 (w2.heap.size) (.bool false) (.slice none 0 0) (.slice none 0 0) := Box3.new (by simp) b3
     have n0c0 := N0_3.c0; have n0c1 := N0_3.c1; have n0c2 := N0_3.c2; have n0fr := N0_3.fr; have n0lt := N0_3.lt
     refine hK.out _ _ ?_ (fun hHeld => ?_)
     · exact mC2
     clear hK K
     (try simp only [Act.put, tkA, tkB, tkC])
     refine tk (hQ := fun _ _ _ h => hP _ _ _ _ _ h) (v := ?_) 5 ⟨some 30, _, _, _, _, _⟩ rfl ?_ ?_
     rotate_left 2
     · (intro w hSw; (try dsimp only at hSw); go_simp; (try with_reducible rfl))
     (try simp only [Act.put, tkA, tkB, tkC])
     refine tk (hQ := fun _ _ _ h => hP _ _ _ _ _ h) (v := ?_) 6 ⟨some 36, _, _, _, _, _⟩ rfl ?_ ?_
     rotate_left 2
     · (intro w hSw; (try dsimp only at hSw); go_simp; (try with_reducible rfl))
     (try simp only [Act.put, tkA, tkB, tkC])
     refine tk (hQ := fun _ _ _ h => hP _ _ _ _ _ h) (v := ?_) 7 ⟨some 37, _, _, _, _, _⟩ rfl ?_ ?_
     rotate_left 2
     · (intro w hSw; (try dsimp only at hSw); go_simp; (try with_reducible rfl))
     (try simp only [Act.put, tkA, tkB, tkC])
     refine tk (hQ := fun _ _ _ h => hP _ _ _ _ _ h) (v := ?_) 8 ⟨some 38, _, _, _, _, _⟩ rfl ?_ ?_
     rotate_left 2
     · (intro w hSw; (try dsimp only at hSw); go_simp; (try with_reducible rfl))
     (try simp only [Act.put, tkA, tkB, tkC])
     refine wpAnyH_ready (rs := [10]) (by kernel_rfl) (by simp) ?_
     refine AllReadyH.cons (o := ⟨some 7, _, _, _, _, _⟩) rfl (fun K hK => ?_) AllReadyH.nil
     go_simp
     refine hK.out _ _ ?_ (fun hHeld => ?_)
     · exact mC2
     clear hK K
     (try simp only [Act.put, tkA, tkB, tkC])
     refine wpAnyH_ready (rs := [11]) (by kernel_rfl) (by simp) ?_
     refine AllReadyH.cons (o := ⟨none, _, _, _, _, _⟩) rfl (fun K hK => ?_) AllReadyH.nil
     go_simp
     refine hK.out _ _ ?_ (fun hHeld => ?_)
     · exact mC2
     clear hK K
     (try simp only [Act.put, tkA, tkB, tkC])
     refine wpAnyH_ready (rs := [12]) (by kernel_rfl) (by simp) ?_
     refine AllReadyH.cons (o := ⟨none, _, _, _, _, _⟩) rfl (fun K hK => ?_) AllReadyH.nil
     go_simp
     refine hK.out _ _ ?_ (fun hHeld => ?_)
     · exact mC2
     clear hK K
     (try simp only [Act.put, tkA, tkB, tkC])
     refine wpAnyH_ready (rs := [13]) (by kernel_rfl) (by simp) ?_
     refine AllReadyH.cons (o := ⟨some 8, _, _, _, _, _⟩) rfl (fun K hK => ?_) AllReadyH.nil
     go_simp
     refine hK.out _ _ ?_ (fun hHeld => ?_)
     · exact mC2
     clear hK K
     (try simp only [Act.put, tkA, tkB, tkC])
     refine wpAnyH_done (by kernel_rfl) ?_ _
     have s1 := b1.size; (try simp at s1); have s2 := b2.size; (try simp at s2); have s3 := b3.size; (try simp at s3)
     refine HQ.out _ _ _ _ _ _ _ _ _ (w2.heap.size) (w3.heap.size) ya1 yn1 yc1 yd1 ym1 ye1 ya2 yn2 yc2 yd2 ym2 ye2 _ ?_
     exact two_el mC F9h.out (by (try simp) <;> omega) N0_3 (by (try simp) <;> omega) (by (try simp) <;> omega)
    refine AllReadyH.cons (o := ⟨some 7, _, _, _, _, _⟩) rfl (fun K hK => ?_) AllReadyH.nil
    go_simp
    refine hK.out _ _ ?_ (fun hHeld => ?_)
    · exact mC2
    clear hK K
    (try simp only [Act.put, tkA, tkB, tkC])
    refine wpAnyH_ready (rs := [4]) (by kernel_rfl) (by simp) ?_
    refine AllReadyH.cons (o := ⟨some 35, _, _, _, _, _⟩) rfl (fun K hK => ?_) AllReadyH.nil
    go_simp
    (go_at_call 18; (with_reducible refine (spec_CellSideL _ x _ p _ (Ty.at_more (Ty.fresh_at Fc0) (Turns.more (by ((repeat (first | (with_reducible apply Turns.drew) | (with_reducible apply Turns.drewN) | (with_reducible apply Turns.alloc))); (with_reducible refine Turns.via b2 ?_); (repeat (first | (with_reducible apply Turns.drew) | (with_reducible apply Turns.drewN) | (with_reducible apply Turns.alloc))); exact Turns.refl _ _)))) Hs0.out (Ty.at_more (Ty.fresh_at Fc1) (Turns.more (by ((repeat (first | (with_reducible apply Turns.drew) | (with_reducible apply Turns.drewN) | (with_reducible apply Turns.alloc))); exact Turns.refl _ _)))) Hs1.out r1 r2 f0 ER1.out ER2.out EF0.out).mono ?_); rintro e w3 ⟨ya1, yn1, yc1, yd1, ym1, ye1, ya2, yn2, yc2, yd2, ym2, ye2, rfl, b3, F9⟩; have F9h := Lib.hid F9; clear F9)
    have z3 : w0.heap.size ≤ w3.heap.size := by have := b3.size; (try simp at this); omega
    have N0_3 : Box3 w3 (w2.heap.size) (.bool false) (.slice none 0 0) (.slice none 0 0) := Box3.new (by simp) (More.un b3)
    have N1_3 : Box3 w3 (w2.heap.size + 1) (.bool false) (.slice none 0 0) (.slice none 0 0) := Box3.new (by simp) b3
    have npq : ¬ (w2.heap.size = w2.heap.size + 1) := by have s1 := b1.size; (try simp at s1); have s2 := b2.size; (try simp at s2); have s3 := b3.size; (try simp at s3); omega
    have nqp : ¬ (w2.heap.size + 1 = w2.heap.size) := by have s1 := b1.size; (try simp at s1); have s2 := b2.size; (try simp at s2); have s3 := b3.size; (try simp at s3); omega
    have n0c0 := N0_3.c0; have n0c1 := N0_3.c1; have n0c2 := N0_3.c2; have n0fr := N0_3.fr; have n0lt := N0_3.lt
    have n1c0 := N1_3.c0; have n1c1 := N1_3.c1; have n1c2 := N1_3.c2; have n1fr := N1_3.fr; have n1lt := N1_3.lt
    refine hK.out _ _ ?_ (fun hHeld => ?_)
    · exact mC2
    clear hK K
    (try simp only [Act.put, tkA, tkB, tkC])
    refine tk (hQ := fun _ _ _ h => hP _ _ _ _ _ h) (v := ?_) 5 ⟨some 30, _, _, _, _, _⟩ rfl ?_ ?_
    rotate_left 2
    · (intro w hSw; (try dsimp only at hSw); go_simp; (try with_reducible rfl))
    (try simp only [Act.put, tkA, tkB, tkC])
    refine tk (hQ := fun _ _ _ h => hP _ _ _ _ _ h) (v := ?_) 6 ⟨some 36, _, _, _, _, _⟩ rfl ?_ ?_
    rotate_left 2
    · (intro w hSw; (try dsimp only at hSw); go_simp; (try with_reducible rfl))
    (try simp only [Act.put, tkA, tkB, tkC])
    refine tk (hQ := fun _ _ _ h => hP _ _ _ _ _ h) (v := ?_) 7 ⟨some 37, _, _, _, _, _⟩ rfl ?_ ?_
    rotate_left 2
    · (intro w hSw; (try dsimp only at hSw); go_simp; (try with_reducible rfl))
    (try simp only [Act.put, tkA, tkB, tkC])
    refine tk (hQ := fun _ _ _ h => hP _ _ _ _ _ h) (v := ?_) 8 ⟨some 38, _, _, _, _, _⟩ rfl ?_ ?_
    rotate_left 2
    · (intro w hSw; (try dsimp only at hSw); go_simp; (try with_reducible rfl))
    (try simp only [Act.put, tkA, tkB, tkC])
    refine wpAnyH_ready (rs := [11]) (by kernel_rfl) (by simp) ?_
    refine AllReadyH.cons (o := ⟨none, _, _, _, _, _⟩) rfl (fun K hK => ?_) AllReadyH.nil
    go_simp
    refine hK.out _ _ ?_ (fun hHeld => ?_)
    · exact mC2
    clear hK K
    (try simp only [Act.put, tkA, tkB, tkC])
    refine wpAnyH_ready (rs := [12]) (by kernel_rfl) (by simp) ?_
    refine AllReadyH.cons (o := ⟨none, _, _, _, _, _⟩) rfl (fun K hK => ?_) AllReadyH.nil
    go_simp
    refine hK.out _ _ ?_ (fun hHeld => ?_)
    · exact mC2
    clear hK K
    (try simp only [Act.put, tkA, tkB, tkC])
    refine wpAnyH_ready (rs := [13]) (by kernel_rfl) (by simp) ?_
    refine AllReadyH.cons (o := ⟨some 8, _, _, _, _, _⟩) rfl (fun K hK => ?_) AllReadyH.nil
    go_simp
    refine hK.out _ _ ?_ (fun hHeld => ?_)
    · exact mC2
    clear hK K
    (try simp only [Act.put, tkA, tkB, tkC])
    refine wpAnyH_done (by kernel_rfl) ?_ _
    have s1 := b1.size; (try simp at s1); have s2 := b2.size; (try simp at s2); have s3 := b3.size; (try simp at s3)
    refine HQ.out _ _ _ _ _ _ _ _ _ (w2.heap.size) (w2.heap.size + 1) ya1 yn1 yc1 yd1 ym1 ye1 ya2 yn2 yc2 yd2 ym2 ye2 _ ?_
    exact two_ee mC F9h.out (by (try simp) <;> omega) N0_3 N1_3 (by (try simp) <;> omega) (by (try simp) <;> omega) (by (try simp) <;> omega) (by (try simp) <;> omega) (by (try simp) <;> omega)
   refine AllReadyH.cons (o := ⟨some 7, _, _, _, _, _⟩) rfl (fun K hK => ?_) AllReadyH.nil
   go_simp
   refine hK.out _ _ ?_ (fun hHeld => ?_)
   · exact mC2
   clear hK K
   (try simp only [Act.put, tkA, tkB, tkC])
   refine wpAnyH_ready (rs := [4, 9]) (by kernel_rfl) (by simp) ?_
   refine AllReadyH.cons (o := ⟨some 35, _, _, _, _, _⟩) rfl (fun K hK => ?_) ?_
   ·
    go_simp
    (go_at_call 18; (with_reducible refine (spec_CellSideL _ x _ p _ (Ty.at_more (Ty.fresh_at Fc0) (Turns.more (by ((repeat (first | (with_reducible apply Turns.drew) | (with_reducible apply Turns.drewN) | (with_reducible apply Turns.alloc))); (with_reducible refine Turns.via b2 ?_); (repeat (first | (with_reducible apply Turns.drew) | (with_reducible apply Turns.drewN) | (with_reducible apply Turns.alloc))); exact Turns.refl _ _)))) Hs0.out (Ty.at_more (Ty.fresh_at Fc1) (Turns.more (by ((repeat (first | (with_reducible apply Turns.drew) | (with_reducible apply Turns.drewN) | (with_reducible apply Turns.alloc))); exact Turns.refl _ _)))) Hs1.out r1 r2 f0 ER1.out ER2.out EF0.out).mono ?_); rintro e w3 ⟨ya1, yn1, yc1, yd1, ym1, ye1, ya2, yn2, yc2, yd2, ym2, ye2, rfl, b3, F9⟩; have F9h := Lib.hid F9; clear F9)
    have z3 : w0.heap.size ≤ w3.heap.size := by have := b3.size; (try simp at this); omega
    have N1_3 : Box3 w3 (w2.heap.size) (.bool false) (.slice none 0 0) (.slice none 0 0) := Box3.new (by simp) b3
    have n1c0 := N1_3.c0; have n1c1 := N1_3.c1; have n1c2 := N1_3.c2; have n1fr := N1_3.fr; have n1lt := N1_3.lt
    refine hK.out _ _ ?_ (fun hHeld => ?_)
    · exact mC2
    clear hK K
    (try simp only [Act.put, tkA, tkB, tkC])
    refine tk (hQ := fun _ _ _ h => hP _ _ _ _ _ h) (v := ?_) 5 ⟨some 30, _, _, _, _, _⟩ rfl ?_ ?_
    rotate_left 2
    · (intro w hSw; (try dsimp only at hSw); go_simp; (try with_reducible rfl))
    (try simp only [Act.put, tkA, tkB, tkC])
    refine tk (hQ := fun _ _ _ h => hP _ _ _ _ _ h) (v := ?_) 6 ⟨some 36, _, _, _, _, _⟩ rfl ?_ ?_
    rotate_left 2
    · (intro w hSw; (try dsimp only at hSw); go_simp; (try with_reducible rfl))
    (try simp only [Act.put, tkA, tkB, tkC])
    refine tk (hQ := fun _ _ _ h => hP _ _ _ _ _ h) (v := ?_) 7 ⟨some 37, _, _, _, _, _⟩ rfl ?_ ?_
    rotate_left 2
    · (intro w hSw; (try dsimp only at hSw); go_simp; (try with_reducible rfl))
    (try simp only [Act.put, tkA, tkB, tkC])
    refine tk (hQ := fun _ _ _ h => hP _ _ _ _ _ h) (v := ?_) 8 ⟨some 38, _, _, _, _, _⟩ rfl ?_ ?_
    rotate_left 2
    · (intro w hSw; (try dsimp only at hSw); go_simp; (try with_reducible rfl))
    (try simp only [Act.put, tkA, tkB, tkC])
    refine wpAnyH_ready (rs := [9]) (by kernel_rfl) (by simp) ?_
    refine AllReadyH.cons (o := ⟨some 6, _, _, _, _, _⟩) rfl (fun K hK => ?_) AllReadyH.nil
    go_simp
    refine hK.out _ _ ?_ (fun hHeld => ?_)
    · exact mC2
    clear hK K
    (try simp only [Act.put, tkA, tkB, tkC])
    refine wpAnyH_ready (rs := [11]) (by kernel_rfl) (by simp) ?_
    refine AllReadyH.cons (o := ⟨none, _, _, _, _, _⟩) rfl (fun K hK => ?_) AllReadyH.nil
    go_simp
    refine hK.out _ _ ?_ (fun hHeld => ?_)
    · exact mC2
    clear hK K
    (try simp only [Act.put, tkA, tkB, tkC])
    refine wpAnyH_ready (rs := [12]) (by kernel_rfl) (by simp) ?_
    refine AllReadyH.cons (o := ⟨none, _, _, _, _, _⟩) rfl (fun K hK => ?_) AllReadyH.nil
    go_simp
    refine hK.out _ _ ?_ (fun hHeld => ?_)
    · exact mC2
    clear hK K
    (try simp only [Act.put, tkA, tkB, tkC])
    refine wpAnyH_ready (rs := [13]) (by kernel_rfl) (by simp) ?_
    refine AllReadyH.cons (o := ⟨some 8, _, _, _, _, _⟩) rfl (fun K hK => ?_) AllReadyH.nil
    go_simp
    refine hK.out _ _ ?_ (fun hHeld => ?_)
    · exact mC2
    clear hK K
    (try simp only [Act.put, tkA, tkB, tkC])
    refine wpAnyH_done (by kernel_rfl) ?_ _
    have s1 := b1.size; (try simp at s1); have s2 := b2.size; (try simp at s2); have s3 := b3.size; (try simp at s3)
    refine HQ.out _ _ _ _ _ _ _ _ _ (w3.heap.size) (w2.heap.size) ya1 yn1 yc1 yd1 ym1 ye1 ya2 yn2 yc2 yd2 ym2 ye2 _ ?_
    exact two_le mC F9h.out (by (try simp) <;> omega) N1_3 (by (try simp) <;> omega) (by (try simp) <;> omega)
   refine AllReadyH.cons (o := ⟨some 6, _, _, _, _, _⟩) rfl (fun K hK => ?_) AllReadyH.nil
   go_simp
   refine hK.out _ _ ?_ (fun hHeld => ?_)
   · exact mC2
   clear hK K
   (try simp only [Act.put, tkA, tkB, tkC])
   refine wpAnyH_ready (rs := [4]) (by kernel_rfl) (by simp) ?_
   refine AllReadyH.cons (o := ⟨some 35, _, _, _, _, _⟩) rfl (fun K hK => ?_) AllReadyH.nil
   go_simp
   (go_at_call 18; (with_reducible refine (spec_CellSideL _ x _ p _ (Ty.at_more (Ty.fresh_at Fc0) (Turns.more (by ((repeat (first | (with_reducible apply Turns.drew) | (with_reducible apply Turns.drewN) | (with_reducible apply Turns.alloc))); (with_reducible refine Turns.via b2 ?_); (repeat (first | (with_reducible apply Turns.drew) | (with_reducible apply Turns.drewN) | (with_reducible apply Turns.alloc))); exact Turns.refl _ _)))) Hs0.out (Ty.at_more (Ty.fresh_at Fc1) (Turns.more (by ((repeat (first | (with_reducible apply Turns.drew) | (with_reducible apply Turns.drewN) | (with_reducible apply Turns.alloc))); exact Turns.refl _ _)))) Hs1.out r1 r2 f0 ER1.out ER2.out EF0.out).mono ?_); rintro e w3 ⟨ya1, yn1, yc1, yd1, ym1, ye1, ya2, yn2, yc2, yd2, ym2, ye2, rfl, b3, F9⟩; have F9h := Lib.hid F9; clear F9)
   have z3 : w0.heap.size ≤ w3.heap.size := by have := b3.size; (try simp at this); omega
   have N0_3 : Box3 w3 (w2.heap.size + 1) (.bool false) (.slice none 0 0) (.slice none 0 0) := Box3.new (by simp) b3
   have N1_3 : Box3 w3 (w2.heap.size) (.bool false) (.slice none 0 0) (.slice none 0 0) := Box3.new (by simp) (More.un b3)
   have npq : ¬ (w2.heap.size + 1 = w2.heap.size) := by have s1 := b1.size; (try simp at s1); have s2 := b2.size; (try simp at s2); have s3 := b3.size; (try simp at s3); omega
   have nqp : ¬ (w2.heap.size = w2.heap.size + 1) := by have s1 := b1.size; (try simp at s1); have s2 := b2.size; (try simp at s2); have s3 := b3.size; (try simp at s3); omega
   have n0c0 := N0_3.c0; have n0c1 := N0_3.c1; have n0c2 := N0_3.c2; have n0fr := N0_3.fr; have n0lt := N0_3.lt
   have n1c0 := N1_3.c0; have n1c1 := N1_3.c1; have n1c2 := N1_3.c2; have n1fr := N1_3.fr; have n1lt := N1_3.lt
   refine hK.out _ _ ?_ (fun hHeld => ?_)
   · exact mC2
   clear hK K
   (try simp only [Act.put, tkA, tkB, tkC])
   refine tk (hQ := fun _ _ _ h => hP _ _ _ _ _ h) (v := ?_) 5 ⟨some 30, _, _, _, _, _⟩ rfl ?_ ?_
   rotate_left 2
   · (intro w hSw; (try dsimp only at hSw); go_simp; (try with_reducible rfl))
   (try simp only [Act.put, tkA, tkB, tkC])
   refine tk (hQ := fun _ _ _ h => hP _ _ _ _ _ h) (v := ?_) 6 ⟨some 36, _, _, _, _, _⟩ rfl ?_ ?_
   rotate_left 2
   · (intro w hSw; (try dsimp only at hSw); go_simp; (try with_reducible rfl))
   (try simp only [Act.put, tkA, tkB, tkC])
   refine tk (hQ := fun _ _ _ h => hP _ _ _ _ _ h) (v := ?_) 7 ⟨some 37, _, _, _, _, _⟩ rfl ?_ ?_
   rotate_left 2
   · (intro w hSw; (try dsimp only at hSw); go_simp; (try with_reducible rfl))
   (try simp only [Act.put, tkA, tkB, tkC])
   refine tk (hQ := fun _ _ _ h => hP _ _ _ _ _ h) (v := ?_) 8 ⟨some 38, _, _, _, _, _⟩ rfl ?_ ?_
   rotate_left 2
   · (intro w hSw; (try dsimp only at hSw); go_simp; (try with_reducible rfl))
   (try simp only [Act.put, tkA, tkB, tkC])
   refine wpAnyH_ready (rs := [11]) (by kernel_rfl) (by simp) ?_
   refine AllReadyH.cons (o := ⟨none, _, _, _, _, _⟩) rfl (fun K hK => ?_) AllReadyH.nil
   go_simp
   refine hK.out _ _ ?_ (fun hHeld => ?_)
   · exact mC2
   clear hK K
   (try simp only [Act.put, tkA, tkB, tkC])
   refine wpAnyH_ready (rs := [12]) (by kernel_rfl) (by simp) ?_
   refine AllReadyH.cons (o := ⟨none, _, _, _, _, _⟩) rfl (fun K hK => ?_) AllReadyH.nil
   go_simp
   refine hK.out _ _ ?_ (fun hHeld => ?_)
   · exact mC2
   clear hK K
   (try simp only [Act.put, tkA, tkB, tkC])
   refine wpAnyH_ready (rs := [13]) (by kernel_rfl) (by simp) ?_
   refine AllReadyH.cons (o := ⟨some 8, _, _, _, _, _⟩) rfl (fun K hK => ?_) AllReadyH.nil
   go_simp
   refine hK.out _ _ ?_ (fun hHeld => ?_)
   · exact mC2
   clear hK K
   (try simp only [Act.put, tkA, tkB, tkC])
   refine wpAnyH_done (by kernel_rfl) ?_ _
   have s1 := b1.size; (try simp at s1); have s2 := b2.size; (try simp at s2); have s3 := b3.size; (try simp at s3)
   refine HQ.out _ _ _ _ _ _ _ _ _ (w2.heap.size + 1) (w2.heap.size) ya1 yn1 yc1 yd1 ym1 ye1 ya2 yn2 yc2 yd2 ym2 ye2 _ ?_
   exact two_ee mC F9h.out (by (try simp) <;> omega) N0_3 N1_3 (by (try simp) <;> omega) (by (try simp) <;> omega) (by (try simp) <;> omega) (by (try simp) <;> omega) (by (try simp) <;> omega)
  refine AllReadyH.cons (o := ⟨some 6, _, _, _, _, _⟩) rfl (fun K hK => ?_) ?_
  ·
   go_simp
   refine hK.out _ _ ?_ (fun hHeld => ?_)
   · exact mC2
   clear hK K
   (try simp only [Act.put, tkA, tkB, tkC])
   refine wpAnyH_ready (rs := [3, 10]) (by kernel_rfl) (by simp) ?_
   refine AllReadyH.cons (o := ⟨some 34, _, _, _, _, _⟩) rfl (fun K hK => ?_) ?_
   ·
    go_simp
    (go_at_call 20; (with_reducible refine (laws_toRat _ p _ (Ty.at_more HV1.out mC) Hs1.out).mono ?_); rintro e w2 ⟨c1, rfl, b2, Fc1⟩)
    have z2 : w0.heap.size ≤ w2.heap.size := by have := b2.size; (try simp at this); omega
    have N0_2 : Box3 w2 (w1.heap.size) (.bool false) (.slice none 0 0) (.slice none 0 0) := Box3.new (by simp) b2
    refine hK.out _ _ ?_ (fun hHeld => ?_)
    · exact mC2
    clear hK K
    (try simp only [Act.put, tkA, tkB, tkC])
    refine wpAnyH_ready (rs := [4, 10]) (by kernel_rfl) (by simp) ?_
    refine AllReadyH.cons (o := ⟨some 35, _, _, _, _, _⟩) rfl (fun K hK => ?_) ?_
    ·
     go_simp
     (go_at_call 18; (with_reducible refine (spec_CellSideL _ x _ p _ (Ty.at_more (Ty.fresh_at Fc0) (Turns.more (by ((repeat (first | (with_reducible apply Turns.drew) | (with_reducible apply Turns.drewN) | (with_reducible apply Turns.alloc))); (with_reducible refine Turns.via b2 ?_); (repeat (first | (with_reducible apply Turns.drew) | (with_reducible apply Turns.drewN) | (with_reducible apply Turns.alloc))); exact Turns.refl _ _)))) Hs0.out (Ty.at_more (Ty.fresh_at Fc1) (Turns.more (by ((repeat (first | (with_reducible apply Turns.drew) | (with_reducible apply Turns.drewN) | (with_reducible apply Turns.alloc))); exact Turns.refl _ _)))) Hs1.out r1 r2 f0 ER1.out ER2.out EF0.out).mono ?_); rintro e w3 ⟨ya1, yn1, yc1, yd1, ym1, ye1, ya2, yn2, yc2, yd2, ym2, ye2, rfl, b3, F9⟩; have F9h := Lib.hid F9; clear F9)
     have z3 : w0.heap.size ≤ w3.heap.size := by have := b3.size; (try simp at this); omega
     have N0_3 : Box3 w3 (w1.heap.size) (.bool false) (.slice none 0 0) (.slice none 0 0) := Box3.keep N0_2 (show More w2 w3 from mC)
     have n0c0 := N0_3.c0; have n0c1 := N0_3.c1; have n0c2 := N0_3.c2; have n0fr := N0_3.fr; have n0lt := N0_3.lt
     refine hK.out _ _ ?_ (fun hHeld => ?_)
     · exact mC2
     clear hK K
     (try simp only [Act.put, tkA, tkB, tkC])
     refine tk (hQ := fun _ _ _ h => hP _ _ _ _ _ h) (v := ?_) 5 ⟨some 30, _, _, _, _, _⟩ rfl ?_ ?_
     rotate_left 2
     · (intro w hSw; (try dsimp only at hSw); go_simp; (try with_reducible rfl))
     (try simp only [Act.put, tkA, tkB, tkC])
     refine tk (hQ := fun _ _ _ h => hP _ _ _ _ _ h) (v := ?_) 6 ⟨some 36, _, _, _, _, _⟩ rfl ?_ ?_
     rotate_left 2
     · (intro w hSw; (try dsimp only at hSw); go_simp; (try with_reducible rfl))
     (try simp only [Act.put, tkA, tkB, tkC])
     refine tk (hQ := fun _ _ _ h => hP _ _ _ _ _ h) (v := ?_) 7 ⟨some 37, _, _, _, _, _⟩ rfl ?_ ?_
     rotate_left 2
     · (intro w hSw; (try dsimp only at hSw); go_simp; (try with_reducible rfl))
     (try simp only [Act.put, tkA, tkB, tkC])
     refine tk (hQ := fun _ _ _ h => hP _ _ _ _ _ h) (v := ?_) 8 ⟨some 38, _, _, _, _, _⟩ rfl ?_ ?_
     rotate_left 2
     · (intro w hSw; (try dsimp only at hSw); go_simp; (try with_reducible rfl))
     (try simp only [Act.put, tkA, tkB, tkC])
     refine wpAnyH_ready (rs := [10]) (by kernel_rfl) (by simp) ?_
     refine AllReadyH.cons (o := ⟨some 7, _, _, _, _, _⟩) rfl (fun K hK => ?_) AllReadyH.nil
     go_simp
     refine hK.out _ _ ?_ (fun hHeld => ?_)
     · exact mC2
     clear hK K
     (try simp only [Act.put, tkA, tkB, tkC])
     refine wpAnyH_ready (rs := [11]) (by kernel_rfl) (by simp) ?_
     refine AllReadyH.cons (o := ⟨none, _, _, _, _, _⟩) rfl (fun K hK => ?_) AllReadyH.nil
     go_simp
     refine hK.out _ _ ?_ (fun hHeld => ?_)
     · exact mC2
     clear hK K
     (try simp only [Act.put, tkA, tkB, tkC])
     refine wpAnyH_ready (rs := [12]) (by kernel_rfl) (by simp) ?_
     refine AllReadyH.cons (o := ⟨none, _, _, _, _, _⟩) rfl (fun K hK => ?_) AllReadyH.nil
     go_simp
     refine hK.out _ _ ?_ (fun hHeld => ?_)
     · exact mC2
     clear hK K
     (try simp only [Act.put, tkA, tkB, tkC])
     refine wpAnyH_ready (rs := [13]) (by kernel_rfl) (by simp) ?_
     refine AllReadyH.cons (o := ⟨some 8, _, _, _, _, _⟩) rfl (fun K hK => ?_) AllReadyH.nil
     go_simp
     refine hK.out _ _ ?_ (fun hHeld => ?_)
     · exact mC2
     clear hK K
     (try simp only [Act.put, tkA, tkB, tkC])
     refine wpAnyH_done (by kernel_rfl) ?_ _
     have s1 := b1.size; (try simp at s1); have s2 := b2.size; (try simp at s2); have s3 := b3.size; (try simp at s3)
     refine HQ.out _ _ _ _ _ _ _ _ _ (w1.heap.size) (w3.heap.size) ya1 yn1 yc1 yd1 ym1 ye1 ya2 yn2 yc2 yd2 ym2 ye2 _ ?_
     exact two_el mC F9h.out (by (try simp) <;> omega) N0_3 (by (try simp) <;> omega) (by (try simp) <;> omega)
    refine AllReadyH.cons (o := ⟨some 7, _, _, _, _, _⟩) rfl (fun K hK => ?_) AllReadyH.nil
    go_simp
    refine hK.out _ _ ?_ (fun hHeld => ?_)
    · exact mC2
    clear hK K
    (try simp only [Act.put, tkA, tkB, tkC])
    refine wpAnyH_ready (rs := [4]) (by kernel_rfl) (by simp) ?_
    refine AllReadyH.cons (o := ⟨some 35, _, _, _, _, _⟩) rfl (fun K hK => ?_) AllReadyH.nil
    go_simp
    (go_at_call 18; (with_reducible refine (spec_CellSideL _ x _ p _ (Ty.at_more (Ty.fresh_at Fc0) (Turns.more (by ((repeat (first | (with_reducible apply Turns.drew) | (with_reducible apply Turns.drewN) | (with_reducible apply Turns.alloc))); (with_reducible refine Turns.via b2 ?_); (repeat (first | (with_reducible apply Turns.drew) | (with_reducible apply Turns.drewN) | (with_reducible apply Turns.alloc))); exact Turns.refl _ _)))) Hs0.out (Ty.at_more (Ty.fresh_at Fc1) (Turns.more (by ((repeat (first | (with_reducible apply Turns.drew) | (with_reducible apply Turns.drewN) | (with_reducible apply Turns.alloc))); exact Turns.refl _ _)))) Hs1.out r1 r2 f0 ER1.out ER2.out EF0.out).mono ?_); rintro e w3 ⟨ya1, yn1, yc1, yd1, ym1, ye1, ya2, yn2, yc2, yd2, ym2, ye2, rfl, b3, F9⟩; have F9h := Lib.hid F9; clear F9)
    have z3 : w0.heap.size ≤ w3.heap.size := by have := b3.size; (try simp at this); omega
    have N0_3 : Box3 w3 (w1.heap.size) (.bool false) (.slice none 0 0) (.slice none 0 0) := Box3.keep N0_2 (show More w2 w3 from mC)
    have N1_3 : Box3 w3 (w2.heap.size) (.bool false) (.slice none 0 0) (.slice none 0 0) := Box3.new (by simp) b3
    have npq : ¬ (w1.heap.size = w2.heap.size) := by have s1 := b1.size; (try simp at s1); have s2 := b2.size; (try simp at s2); have s3 := b3.size; (try simp at s3); omega
    have nqp : ¬ (w2.heap.size = w1.heap.size) := by have s1 := b1.size; (try simp at s1); have s2 := b2.size; (try simp at s2); have s3 := b3.size; (try simp at s3); omega
    have n0c0 := N0_3.c0; have n0c1 := N0_3.c1; have n0c2 := N0_3.c2; have n0fr := N0_3.fr; have n0lt := N0_3.lt
    have n1c0 := N1_3.c0; have n1c1 := N1_3.c1; have n1c2 := N1_3.c2; have n1fr := N1_3.fr; have n1lt := N1_3.lt
    refine hK.out _ _ ?_ (fun hHeld => ?_)
    · exact mC2
    clear hK K
    (try simp only [Act.put, tkA, tkB, tkC])
    refine tk (hQ := fun _ _ _ h => hP _ _ _ _ _ h) (v := ?_) 5 ⟨some 30, _, _, _, _, _⟩ rfl ?_ ?_
    rotate_left 2
    · (intro w hSw; (try dsimp only at hSw); go_simp; (try with_reducible rfl))
    (try simp only [Act.put, tkA, tkB, tkC])
    refine tk (hQ := fun _ _ _ h => hP _ _ _ _ _ h) (v := ?_) 6 ⟨some 36, _, _, _, _, _⟩ rfl ?_ ?_
    rotate_left 2
    · (intro w hSw; (try dsimp only at hSw); go_simp; (try with_reducible rfl))
    (try simp only [Act.put, tkA, tkB, tkC])
    refine tk (hQ := fun _ _ _ h => hP _ _ _ _ _ h) (v := ?_) 7 ⟨some 37, _, _, _, _, _⟩ rfl ?_ ?_
    rotate_left 2
    · (intro w hSw; (try dsimp only at hSw); go_simp; (try with_reducible rfl))
    (try simp only [Act.put, tkA, tkB, tkC])
    refine tk (hQ := fun _ _ _ h => hP _ _ _ _ _ h) (v := ?_) 8 ⟨some 38, _, _, _, _, _⟩ rfl ?_ ?_
    rotate_left 2
    · (intro w hSw; (try dsimp only at hSw); go_simp; (try with_reducible rfl))
    (try simp only [Act.put, tkA, tkB, tkC])
    refine wpAnyH_ready (rs := [11]) (by kernel_rfl) (by simp) ?_
    refine AllReadyH.cons (o := ⟨none, _, _, _, _, _⟩) rfl (fun K hK => ?_) AllReadyH.nil
    go_simp
    refine hK.out _ _ ?_ (fun hHeld => ?_)
    · exact mC2
    clear hK K
    (try simp only [Act.put, tkA, tkB, tkC])
    refine wpAnyH_ready (rs := [12]) (by kernel_rfl) (by simp) ?_
    refine AllReadyH.cons (o := ⟨none, _, _, _, _, _⟩) rfl (fun K hK => ?_) AllReadyH.nil
    go_simp
    refine hK.out _ _ ?_ (fun hHeld => ?_)
    · exact mC2
    clear hK K
    (try simp only [Act.put, tkA, tkB, tkC])
    refine wpAnyH_ready (rs := [13]) (by kernel_rfl) (by simp) ?_
    refine AllReadyH.cons (o := ⟨some 8, _, _, _, _, _⟩) rfl (fun K hK => ?_) AllReadyH.nil
    go_simp
    refine hK.out _ _ ?_ (fun hHeld => ?_)
    · exact mC2
    clear hK K
    (try simp only [Act.put, tkA, tkB, tkC])
    refine wpAnyH_done (by kernel_rfl) ?_ _
    have s1 := b1.size; (try simp at s1); have s2 := b2.size; (try simp at s2); have s3 := b3.size; (try simp at s3)
    refine HQ.out _ _ _ _ _ _ _ _ _ (w1.heap.size) (w2.heap.size) ya1 yn1 yc1 yd1 ym1 ye1 ya2 yn2 yc2 yd2 ym2 ye2 _ ?_
    exact two_ee mC F9h.out (by (try simp) <;> omega) N0_3 N1_3 (by (try simp) <;> omega) (by (try simp) <;> omega) (by (try simp) <;> omega) (by (try simp) <;> omega) (by (try simp) <;> omega)
   refine AllReadyH.cons (o := ⟨some 7, _, _, _, _, _⟩) rfl (fun K hK => ?_) AllReadyH.nil
   go_simp
   refine hK.out _ _ ?_ (fun hHeld => ?_)
   · exact mC2
   clear hK K
   (try simp only [Act.put, tkA, tkB, tkC])
   refine wpAnyH_ready (rs := [3]) (by kernel_rfl) (by simp) ?_
   refine AllReadyH.cons (o := ⟨some 34, _, _, _, _, _⟩) rfl (fun K hK => ?_) AllReadyH.nil
   go_simp
   (go_at_call 20; (with_reducible refine (laws_toRat _ p _ (Ty.at_more HV1.out mC) Hs1.out).mono ?_); rintro e w2 ⟨c1, rfl, b2, Fc1⟩)
   have z2 : w0.heap.size ≤ w2.heap.size := by have := b2.size; (try simp at this); omega
   have N0_2 : Box3 w2 (w1.heap.size) (.bool false) (.slice none 0 0) (.slice none 0 0) := Box3.new (by simp) (More.un b2)
   have N1_2 : Box3 w2 (w1.heap.size + 1) (.bool false) (.slice none 0 0) (.slice none 0 0) := Box3.new (by simp) b2
   refine hK.out _ _ ?_ (fun hHeld => ?_)
   · exact mC2
   clear hK K
   (try simp only [Act.put, tkA, tkB, tkC])
   refine wpAnyH_ready (rs := [4]) (by kernel_rfl) (by simp) ?_
   refine AllReadyH.cons (o := ⟨some 35, _, _, _, _, _⟩) rfl (fun K hK => ?_) AllReadyH.nil
   go_simp
   (go_at_call 18; (with_reducible refine (spec_CellSideL _ x _ p _ (Ty.at_more (Ty.fresh_at Fc0) (Turns.more (by ((repeat (first | (with_reducible apply Turns.drew) | (with_reducible apply Turns.drewN) | (with_reducible apply Turns.alloc))); (with_reducible refine Turns.via b2 ?_); (repeat (first | (with_reducible apply Turns.drew) | (with_reducible apply Turns.drewN) | (with_reducible apply Turns.alloc))); exact Turns.refl _ _)))) Hs0.out (Ty.at_more (Ty.fresh_at Fc1) (Turns.more (by ((repeat (first | (with_reducible apply Turns.drew) | (with_reducible apply Turns.drewN) | (with_reducible apply Turns.alloc))); exact Turns.refl _ _)))) Hs1.out r1 r2 f0 ER1.out ER2.out EF0.out).mono ?_); rintro e w3 ⟨ya1, yn1, yc1, yd1, ym1, ye1, ya2, yn2, yc2, yd2, ym2, ye2, rfl, b3, F9⟩; have F9h := Lib.hid F9; clear F9)
   have z3 : w0.heap.size ≤ w3.heap.size := by have := b3.size; (try simp at this); omega
   have N0_3 : Box3 w3 (w1.heap.size) (.bool false) (.slice none 0 0) (.slice none 0 0) := Box3.keep N0_2 (show More w2 w3 from mC)
   have N1_3 : Box3 w3 (w1.heap.size + 1) (.bool false) (.slice none 0 0) (.slice none 0 0) := Box3.keep N1_2 (show More w2 w3 from mC)
   have npq : ¬ (w1.heap.size = w1.heap.size + 1) := by have s1 := b1.size; (try simp at s1); have s2 := b2.size; (try simp at s2); have s3 := b3.size; (try simp at s3); omega
   have nqp : ¬ (w1.heap.size + 1 = w1.heap.size) := by have s1 := b1.size; (try simp at s1); have s2 := b2.size; (try simp at s2); have s3 := b3.size; (try simp at s3); omega
   have n0c0 := N0_3.c0; have n0c1 := N0_3.c1; have n0c2 := N0_3.c2; have n0fr := N0_3.fr; have n0lt := N0_3.lt
   have n1c0 := N1_3.c0; have n1c1 := N1_3.c1; have n1c2 := N1_3.c2; have n1fr := N1_3.fr; have n1lt := N1_3.lt
   refine hK.out _ _ ?_ (fun hHeld => ?_)
   · exact mC2
   clear hK K
   (try simp only [Act.put, tkA, tkB, tkC])
   refine tk (hQ := fun _ _ _ h => hP _ _ _ _ _ h) (v := ?_) 5 ⟨some 30, _, _, _, _, _⟩ rfl ?_ ?_
   rotate_left 2
   · (intro w hSw; (try dsimp only at hSw); go_simp; (try with_reducible rfl))
   (try simp only [Act.put, tkA, tkB, tkC])
   refine tk (hQ := fun _ _ _ h => hP _ _ _ _ _ h) (v := ?_) 6 ⟨some 36, _, _, _, _, _⟩ rfl ?_ ?_
   rotate_left 2
   · (intro w hSw; (try dsimp only at hSw); go_simp; (try with_reducible rfl))
   (try simp only [Act.put, tkA, tkB, tkC])
   refine tk (hQ := fun _ _ _ h => hP _ _ _ _ _ h) (v := ?_) 7 ⟨some 37, _, _, _, _, _⟩ rfl ?_ ?_
   rotate_left 2
   · (intro w hSw; (try dsimp only at hSw); go_simp; (try with_reducible rfl))
   (try simp only [Act.put, tkA, tkB, tkC])
   refine tk (hQ := fun _ _ _ h => hP _ _ _ _ _ h) (v := ?_) 8 ⟨some 38, _, _, _, _, _⟩ rfl ?_ ?_
   rotate_left 2
   · (intro w hSw; (try dsimp only at hSw); go_simp; (try with_reducible rfl))
   (try simp only [Act.put, tkA, tkB, tkC])
   refine wpAnyH_ready (rs := [11]) (by kernel_rfl) (by simp) ?_
   refine AllReadyH.cons (o := ⟨none, _, _, _, _, _⟩) rfl (fun K hK => ?_) AllReadyH.nil
   go_simp
   refine hK.out _ _ ?_ (fun hHeld => ?_)
   · exact mC2
   clear hK K
   (try simp only [Act.put, tkA, tkB, tkC])
   refine wpAnyH_ready (rs := [12]) (by kernel_rfl) (by simp) ?_
   refine AllReadyH.cons (o := ⟨none, _, _, _, _, _⟩) rfl (fun K hK => ?_) AllReadyH.nil
   go_simp
   refine hK.out _ _ ?_ (fun hHeld => ?_)
   · exact mC2
   clear hK K
   (try simp only [Act.put, tkA, tkB, tkC])
   refine wpAnyH_ready (rs := [13]) (by kernel_rfl) (by simp) ?_
   refine AllReadyH.cons (o := ⟨some 8, _, _, _, _, _⟩) rfl (fun K hK => ?_) AllReadyH.nil
   go_simp
   refine hK.out _ _ ?_ (fun hHeld => ?_)
   · exact mC2
   clear hK K
   (try simp only [Act.put, tkA, tkB, tkC])
   refine wpAnyH_done (by kernel_rfl) ?_ _
   have s1 := b1.size; (try simp at s1); have s2 := b2.size; (try simp at s2); have s3 := b3.size; (try simp at s3)
   refine HQ.out _ _ _ _ _ _ _ _ _ (w1.heap.size) (w1.heap.size + 1) ya1 yn1 yc1 yd1 ym1 ye1 ya2 yn2 yc2 yd2 ym2 ye2 _ ?_
   exact two_ee mC F9h.out (by (try simp) <;> omega) N0_3 N1_3 (by (try simp) <;> omega) (by (try simp) <;> omega) (by (try simp) <;> omega) (by (try simp) <;> omega) (by (try simp) <;> omega)
  refine AllReadyH.cons (o := ⟨some 7, _, _, _, _, _⟩) rfl (fun K hK => ?_) AllReadyH.nil
  go_simp
  refine hK.out _ _ ?_ (fun hHeld => ?_)
  · exact mC2
  clear hK K
  (try simp only [Act.put, tkA, tkB, tkC])
  refine wpAnyH_ready (rs := [3, 9]) (by kernel_rfl) (by simp) ?_
  refine AllReadyH.cons (o := ⟨some 34, _, _, _, _, _⟩) rfl (fun K hK => ?_) ?_
  ·
   go_simp
   (go_at_call 20; (with_reducible refine (laws_toRat _ p _ (Ty.at_more HV1.out mC) Hs1.out).mono ?_); rintro e w2 ⟨c1, rfl, b2, Fc1⟩)
   have z2 : w0.heap.size ≤ w2.heap.size := by have := b2.size; (try simp at this); omega
   have N1_2 : Box3 w2 (w1.heap.size) (.bool false) (.slice none 0 0) (.slice none 0 0) := Box3.new (by simp) b2
   refine hK.out _ _ ?_ (fun hHeld => ?_)
   · exact mC2
   clear hK K
   (try simp only [Act.put, tkA, tkB, tkC])
   refine wpAnyH_ready (rs := [4, 9]) (by kernel_rfl) (by simp) ?_
   refine AllReadyH.cons (o := ⟨some 35, _, _, _, _, _⟩) rfl (fun K hK => ?_) ?_
   ·
    go_simp
    (go_at_call 18; (with_reducible refine (spec_CellSideL _ x _ p _ (Ty.at_more (Ty.fresh_at Fc0) (Turns.more (by ((repeat (first | (with_reducible apply Turns.drew) | (with_reducible apply Turns.drewN) | (with_reducible apply Turns.alloc))); (with_reducible refine Turns.via b2 ?_); (repeat (first | (with_reducible apply Turns.drew) | (with_reducible apply Turns.drewN) | (with_reducible apply Turns.alloc))); exact Turns.refl _ _)))) Hs0.out (Ty.at_more (Ty.fresh_at Fc1) (Turns.more (by ((repeat (first | (with_reducible apply Turns.drew) | (with_reducible apply Turns.drewN) | (with_reducible apply Turns.alloc))); exact Turns.refl _ _)))) Hs1.out r1 r2 f0 ER1.out ER2.out EF0.out).mono ?_); rintro e w3 ⟨ya1, yn1, yc1, yd1, ym1, ye1, ya2, yn2, yc2, yd2, ym2, ye2, rfl, b3, F9⟩; have F9h := Lib.hid F9; clear F9)
    have z3 : w0.heap.size ≤ w3.heap.size := by have := b3.size; (try simp at this); omega
    have N1_3 : Box3 w3 (w1.heap.size) (.bool false) (.slice none 0 0) (.slice none 0 0) := Box3.keep N1_2 (show More w2 w3 from mC)
    have n1c0 := N1_3.c0; have n1c1 := N1_3.c1; have n1c2 := N1_3.c2; have n1fr := N1_3.fr; have n1lt := N1_3.lt
    refine hK.out _ _ ?_ (fun hHeld => ?_)
    · exact mC2
    clear hK K
    (try simp only [Act.put, tkA, tkB, tkC])
    refine tk (hQ := fun _ _ _ h => hP _ _ _ _ _ h) (v := ?_) 5 ⟨some 30, _, _, _, _, _⟩ rfl ?_ ?_
    rotate_left 2
    · (intro w hSw; (try dsimp only at hSw); go_simp; (try with_reducible rfl))
    (try simp only [Act.put, tkA, tkB, tkC])
    refine tk (hQ := fun _ _ _ h => hP _ _ _ _ _ h) (v := ?_) 6 ⟨some 36, _, _, _, _, _⟩ rfl ?_ ?_
    rotate_left 2
    · (intro w hSw; (try dsimp only at hSw); go_simp; (try with_reducible rfl))
    (try simp only [Act.put, tkA, tkB, tkC])
    refine tk (hQ := fun _ _ _ h => hP _ _ _ _ _ h) (v := ?_) 7 ⟨some 37, _, _, _, _, _⟩ rfl ?_ ?_
    rotate_left 2
    · (intro w hSw; (try dsimp only at hSw); go_simp; (try with_reducible rfl))
    (try simp only [Act.put, tkA, tkB, tkC])
    refine tk (hQ := fun _ _ _ h => hP _ _ _ _ _ h) (v := ?_) 8 ⟨some 38, _, _, _, _, _⟩ rfl ?_ ?_
    rotate_left 2
    · (intro w hSw; (try dsimp only at hSw); go_simp; (try with_reducible rfl))
    (try simp only [Act.put, tkA, tkB, tkC])
    refine wpAnyH_ready (rs := [9]) (by kernel_rfl) (by simp) ?_
    refine AllReadyH.cons (o := ⟨some 6, _, _, _, _, _⟩) rfl (fun K hK => ?_) AllReadyH.nil
    go_simp
    refine hK.out _ _ ?_ (fun hHeld => ?_)
    · exact mC2
    clear hK K
    (try simp only [Act.put, tkA, tkB, tkC])
    refine wpAnyH_ready (rs := [11]) (by kernel_rfl) (by simp) ?_
    refine AllReadyH.cons (o := ⟨none, _, _, _, _, _⟩) rfl (fun K hK => ?_) AllReadyH.nil
    go_simp
    refine hK.out _ _ ?_ (fun hHeld => ?_)
    · exact mC2
    clear hK K
    (try simp only [Act.put, tkA, tkB, tkC])
    refine wpAnyH_ready (rs := [12]) (by kernel_rfl) (by simp) ?_
    refine AllReadyH.cons (o := ⟨none, _, _, _, _, _⟩) rfl (fun K hK => ?_) AllReadyH.nil
    go_simp
    refine hK.out _ _ ?_ (fun hHeld => ?_)
    · exact mC2
    clear hK K
    (try simp only [Act.put, tkA, tkB, tkC])
    refine wpAnyH_ready (rs := [13]) (by kernel_rfl) (by simp) ?_
    refine AllReadyH.cons (o := ⟨some 8, _, _, _, _, _⟩) rfl (fun K hK => ?_) AllReadyH.nil
    go_simp
    refine hK.out _ _ ?_ (fun hHeld => ?_)
    · exact mC2
    clear hK K
    (try simp only [Act.put, tkA, tkB, tkC])
    refine wpAnyH_done (by kernel_rfl) ?_ _
    have s1 := b1.size; (try simp at s1); have s2 := b2.size; (try simp at s2); have s3 := b3.size; (try simp at s3)
    refine HQ.out _ _ _ _ _ _ _ _ _ (w3.heap.size) (w1.heap.size) ya1 yn1 yc1 yd1 ym1 ye1 ya2 yn2 yc2 yd2 ym2 ye2 _ ?_
    exact two_le mC F9h.out (by (try simp) <;> omega) N1_3 (by (try simp) <;> omega) (by (try simp) <;> omega)
   refine AllReadyH.cons (o := ⟨some 6, _, _, _, _, _⟩) rfl (fun K hK => ?_) AllReadyH.nil
   go_simp
   refine hK.out _ _ ?_ (fun hHeld => ?_)
   · exact mC2
   clear hK K
   (try simp only [Act.put, tkA, tkB, tkC])
   refine wpAnyH_ready (rs := [4]) (by kernel_rfl) (by simp) ?_
   refine AllReadyH.cons (o := ⟨some 35, _, _, _, _, _⟩) rfl (fun K hK => ?_) AllReadyH.nil
   go_simp
   (go_at_call 18; (with_reducible refine (spec_CellSideL _ x _ p _ (Ty.at_more (Ty.fresh_at Fc0) (Turns.more (by ((repeat (first | (with_reducible apply Turns.drew) | (with_reducible apply Turns.drewN) | (with_reducible apply Turns.alloc))); (with_reducible refine Turns.via b2 ?_); (repeat (first | (with_reducible apply Turns.drew) | (with_reducible apply Turns.drewN) | (with_reducible apply Turns.alloc))); exact Turns.refl _ _)))) Hs0.out (Ty.at_more (Ty.fresh_at Fc1) (Turns.more (by ((repeat (first | (with_reducible apply Turns.drew) | (with_reducible apply Turns.drewN) | (with_reducible apply Turns.alloc))); exact Turns.refl _ _)))) Hs1.out r1 r2 f0 ER1.out ER2.out EF0.out).mono ?_); rintro e w3 ⟨ya1, yn1, yc1, yd1, ym1, ye1, ya2, yn2, yc2, yd2, ym2, ye2, rfl, b3, F9⟩; have F9h := Lib.hid F9; clear F9)
   have z3 : w0.heap.size ≤ w3.heap.size := by have := b3.size; (try simp at this); omega
   have N0_3 : Box3 w3 (w2.heap.size) (.bool false) (.slice none 0 0) (.slice none 0 0) := Box3.new (by simp) b3
   have N1_3 : Box3 w3 (w1.heap.size) (.bool false) (.slice none 0 0) (.slice none 0 0) := Box3.keep N1_2 (show More w2 w3 from mC)
   have npq : ¬ (w2.heap.size = w1.heap.size) := by have s1 := b1.size; (try simp at s1); have s2 := b2.size; (try simp at s2); have s3 := b3.size; (try simp at s3); omega
   have nqp : ¬ (w1.heap.size = w2.heap.size) := by have s1 := b1.size; (try simp at s1); have s2 := b2.size; (try simp at s2); have s3 := b3.size; (try simp at s3); omega
   have n0c0 := N0_3.c0; have n0c1 := N0_3.c1; have n0c2 := N0_3.c2; have n0fr := N0_3.fr; have n0lt := N0_3.lt
   have n1c0 := N1_3.c0; have n1c1 := N1_3.c1; have n1c2 := N1_3.c2; have n1fr := N1_3.fr; have n1lt := N1_3.lt
   refine hK.out _ _ ?_ (fun hHeld => ?_)
   · exact mC2
   clear hK K
   (try simp only [Act.put, tkA, tkB, tkC])
   refine tk (hQ := fun _ _ _ h => hP _ _ _ _ _ h) (v := ?_) 5 ⟨some 30, _, _, _, _, _⟩ rfl ?_ ?_
   rotate_left 2
   · (intro w hSw; (try dsimp only at hSw); go_simp; (try with_reducible rfl))
   (try simp only [Act.put, tkA, tkB, tkC])
   refine tk (hQ := fun _ _ _ h => hP _ _ _ _ _ h) (v := ?_) 6 ⟨some 36, _, _, _, _, _⟩ rfl ?_ ?_
   rotate_left 2
   · (intro w hSw; (try dsimp only at hSw); go_simp; (try with_reducible rfl))
   (try simp only [Act.put, tkA, tkB, tkC])
   refine tk (hQ := fun _ _ _ h => hP _ _ _ _ _ h) (v := ?_) 7 ⟨some 37, _, _, _, _, _⟩ rfl ?_ ?_
   rotate_left 2
   · (intro w hSw; (try dsimp only at hSw); go_simp; (try with_reducible rfl))
   (try simp only [Act.put, tkA, tkB, tkC])
   refine tk (hQ := fun _ _ _ h => hP _ _ _ _ _ h) (v := ?_) 8 ⟨some 38, _, _, _, _, _⟩ rfl ?_ ?_
   rotate_left 2
   · (intro w hSw; (try dsimp only at hSw); go_simp; (try with_reducible rfl))
   (try simp only [Act.put, tkA, tkB, tkC])
   refine wpAnyH_ready (rs := [11]) (by kernel_rfl) (by simp) ?_
   refine AllReadyH.cons (o := ⟨none, _, _, _, _, _⟩) rfl (fun K hK => ?_) AllReadyH.nil
   go_simp
   refine hK.out _ _ ?_ (fun hHeld => ?_)
   · exact mC2
   clear hK K
   (try simp only [Act.put, tkA, tkB, tkC])
   refine wpAnyH_ready (rs := [12]) (by kernel_rfl) (by simp) ?_
   refine AllReadyH.cons (o := ⟨none, _, _, _, _, _⟩) rfl (fun K hK => ?_) AllReadyH.nil
   go_simp
   refine hK.out _ _ ?_ (fun hHeld => ?_)
   · exact mC2
   clear hK K
   (try simp only [Act.put, tkA, tkB, tkC])
   refine wpAnyH_ready (rs := [13]) (by kernel_rfl) (by simp) ?_
   refine AllReadyH.cons (o := ⟨some 8, _, _, _, _, _⟩) rfl (fun K hK => ?_) AllReadyH.nil
   go_simp
   refine hK.out _ _ ?_ (fun hHeld => ?_)
   · exact mC2
   clear hK K
   (try simp only [Act.put, tkA, tkB, tkC])
   refine wpAnyH_done (by kernel_rfl) ?_ _
   have s1 := b1.size; (try simp at s1); have s2 := b2.size; (try simp at s2); have s3 := b3.size; (try simp at s3)
   refine HQ.out _ _ _ _ _ _ _ _ _ (w2.heap.size) (w1.heap.size) ya1 yn1 yc1 yd1 ym1 ye1 ya2 yn2 yc2 yd2 ym2 ye2 _ ?_
   exact two_ee mC F9h.out (by (try simp) <;> omega) N0_3 N1_3 (by (try simp) <;> omega) (by (try simp) <;> omega) (by (try simp) <;> omega) (by (try simp) <;> omega) (by (try simp) <;> omega)
  refine AllReadyH.cons (o := ⟨some 6, _, _, _, _, _⟩) rfl (fun K hK => ?_) AllReadyH.nil
  go_simp
  refine hK.out _ _ ?_ (fun hHeld => ?_)
  · exact mC2
  clear hK K
  (try simp only [Act.put, tkA, tkB, tkC])
  refine wpAnyH_ready (rs := [3]) (by kernel_rfl) (by simp) ?_
  refine AllReadyH.cons (o := ⟨some 34, _, _, _, _, _⟩) rfl (fun K hK => ?_) AllReadyH.nil
  go_simp
  (go_at_call 20; (with_reducible refine (laws_toRat _ p _ (Ty.at_more HV1.out mC) Hs1.out).mono ?_); rintro e w2 ⟨c1, rfl, b2, Fc1⟩)
  have z2 : w0.heap.size ≤ w2.heap.size := by have := b2.size; (try simp at this); omega
  have N0_2 : Box3 w2 (w1.heap.size + 1) (.bool false) (.slice none 0 0) (.slice none 0 0) := Box3.new (by simp) b2
  have N1_2 : Box3 w2 (w1.heap.size) (.bool false) (.slice none 0 0) (.slice none 0 0) := Box3.new (by simp) (More.un b2)
  refine hK.out _ _ ?_ (fun hHeld => ?_)
  · exact mC2
  clear hK K
  (try simp only [Act.put, tkA, tkB, tkC])
  refine wpAnyH_ready (rs := [4]) (by kernel_rfl) (by simp) ?_
  refine AllReadyH.cons (o := ⟨some 35, _, _, _, _, _⟩) rfl (fun K hK => ?_) AllReadyH.nil
  go_simp
  (go_at_call 18; (with_reducible refine (spec_CellSideL _ x _ p _ (Ty.at_more (Ty.fresh_at Fc0) (Turns.more (by ((repeat (first | (with_reducible apply Turns.drew) | (with_reducible apply Turns.drewN) | (with_reducible apply Turns.alloc))); (with_reducible refine Turns.via b2 ?_); (repeat (first | (with_reducible apply Turns.drew) | (with_reducible apply Turns.drewN) | (with_reducible apply Turns.alloc))); exact Turns.refl _ _)))) Hs0.out (Ty.at_more (Ty.fresh_at Fc1) (Turns.more (by ((repeat (first | (with_reducible apply Turns.drew) | (with_reducible apply Turns.drewN) | (with_reducible apply Turns.alloc))); exact Turns.refl _ _)))) Hs1.out r1 r2 f0 ER1.out ER2.out EF0.out).mono ?_); rintro e w3 ⟨ya1, yn1, yc1, yd1, ym1, ye1, ya2, yn2, yc2, yd2, ym2, ye2, rfl, b3, F9⟩; have F9h := Lib.hid F9; clear F9)
  have z3 : w0.heap.size ≤ w3.heap.size := by have := b3.size; (try simp at this); omega
  have N0_3 : Box3 w3 (w1.heap.size + 1) (.bool false) (.slice none 0 0) (.slice none 0 0) := Box3.keep N0_2 (show More w2 w3 from mC)
  have N1_3 : Box3 w3 (w1.heap.size) (.bool false) (.slice none 0 0) (.slice none 0 0) := Box3.keep N1_2 (show More w2 w3 from mC)
  have npq : ¬ (w1.heap.size + 1 = w1.heap.size) := by have s1 := b1.size; (try simp at s1); have s2 := b2.size; (try simp at s2); have s3 := b3.size; (try simp at s3); omega
  have nqp : ¬ (w1.heap.size = w1.heap.size + 1) := by have s1 := b1.size; (try simp at s1); have s2 := b2.size; (try simp at s2); have s3 := b3.size; (try simp at s3); omega
  have n0c0 := N0_3.c0; have n0c1 := N0_3.c1; have n0c2 := N0_3.c2; have n0fr := N0_3.fr; have n0lt := N0_3.lt
  have n1c0 := N1_3.c0; have n1c1 := N1_3.c1; have n1c2 := N1_3.c2; have n1fr := N1_3.fr; have n1lt := N1_3.lt
  refine hK.out _ _ ?_ (fun hHeld => ?_)
  · exact mC2
  clear hK K
  (try simp only [Act.put, tkA, tkB, tkC])
  refine tk (hQ := fun _ _ _ h => hP _ _ _ _ _ h) (v := ?_) 5 ⟨some 30, _, _, _, _, _⟩ rfl ?_ ?_
  rotate_left 2
  · (intro w hSw; (try dsimp only at hSw); go_simp; (try with_reducible rfl))
  (try simp only [Act.put, tkA, tkB, tkC])
  refine tk (hQ := fun _ _ _ h => hP _ _ _ _ _ h) (v := ?_) 6 ⟨some 36, _, _, _, _, _⟩ rfl ?_ ?_
  rotate_left 2
  · (intro w hSw; (try dsimp only at hSw); go_simp; (try with_reducible rfl))
  (try simp only [Act.put, tkA, tkB, tkC])
  refine tk (hQ := fun _ _ _ h => hP _ _ _ _ _ h) (v := ?_) 7 ⟨some 37, _, _, _, _, _⟩ rfl ?_ ?_
  rotate_left 2
  · (intro w hSw; (try dsimp only at hSw); go_simp; (try with_reducible rfl))
  (try simp only [Act.put, tkA, tkB, tkC])
  refine tk (hQ := fun _ _ _ h => hP _ _ _ _ _ h) (v := ?_) 8 ⟨some 38, _, _, _, _, _⟩ rfl ?_ ?_
  rotate_left 2
  · (intro w hSw; (try dsimp only at hSw); go_simp; (try with_reducible rfl))
  (try simp only [Act.put, tkA, tkB, tkC])
  refine wpAnyH_ready (rs := [11]) (by kernel_rfl) (by simp) ?_
  refine AllReadyH.cons (o := ⟨none, _, _, _, _, _⟩) rfl (fun K hK => ?_) AllReadyH.nil
  go_simp
  refine hK.out _ _ ?_ (fun hHeld => ?_)
  · exact mC2
  clear hK K
  (try simp only [Act.put, tkA, tkB, tkC])
  refine wpAnyH_ready (rs := [12]) (by kernel_rfl) (by simp) ?_
  refine AllReadyH.cons (o := ⟨none, _, _, _, _, _⟩) rfl (fun K hK => ?_) AllReadyH.nil
  go_simp
  refine hK.out _ _ ?_ (fun hHeld => ?_)
  · exact mC2
  clear hK K
  (try simp only [Act.put, tkA, tkB, tkC])
  refine wpAnyH_ready (rs := [13]) (by kernel_rfl) (by simp) ?_
  refine AllReadyH.cons (o := ⟨some 8, _, _, _, _, _⟩) rfl (fun K hK => ?_) AllReadyH.nil
  go_simp
  refine hK.out _ _ ?_ (fun hHeld => ?_)
  · exact mC2
  clear hK K
  (try simp only [Act.put, tkA, tkB, tkC])
  refine wpAnyH_done (by kernel_rfl) ?_ _
  have s1 := b1.size; (try simp at s1); have s2 := b2.size; (try simp at s2); have s3 := b3.size; (try simp at s3)
  refine HQ.out _ _ _ _ _ _ _ _ _ (w1.heap.size + 1) (w1.heap.size) ya1 yn1 yc1 yd1 ym1 ye1 ya2 yn2 yc2 yd2 ym2 ye2 _ ?_
  exact two_ee mC F9h.out (by (try simp) <;> omega) N0_3 N1_3 (by (try simp) <;> omega) (by (try simp) <;> omega) (by (try simp) <;> omega) (by (try simp) <;> omega) (by (try simp) <;> omega)
 refine AllReadyH.cons (o := ⟨some 6, _, _, _, _, _⟩) rfl (fun K hK => ?_) ?_
 ·
  go_simp
  refine hK.out _ _ ?_ (fun hHeld => ?_)
  · exact mC2
  clear hK K
  (try simp only [Act.put, tkA, tkB, tkC])
  refine wpAnyH_ready (rs := [1, 10]) (by kernel_rfl) (by simp) ?_
  refine AllReadyH.cons (o := ⟨some 32, _, _, _, _, _⟩) rfl (fun K hK => ?_) ?_
  ·
   go_simp
   (go_at_call 19; (with_reducible refine (calls_arg hV0.out (laws_toCell _ x _ (Ty.at_more HV0.out mC) Hs0.out)).mono ?_); rintro e w1 ⟨c0, rfl, b1, Fc0⟩)
   have z1 : w0.heap.size ≤ w1.heap.size := by have := b1.size; (try simp at this); omega
   have N0_1 : Box3 w1 (w0.heap.size) (.bool false) (.slice none 0 0) (.slice none 0 0) := Box3.new (by simp) (More.undrew b1)
   refine hK.out _ _ ?_ (fun hHeld => ?_)
   · exact mC2
   clear hK K
   (try simp only [Act.put, tkA, tkB, tkC])
   refine wpAnyH_ready (rs := [3, 10]) (by kernel_rfl) (by simp) ?_
   refine AllReadyH.cons (o := ⟨some 34, _, _, _, _, _⟩) rfl (fun K hK => ?_) ?_
   ·
    go_simp
    (go_at_call 20; (with_reducible refine (laws_toRat _ p _ (Ty.at_more HV1.out mC) Hs1.out).mono ?_); rintro e w2 ⟨c1, rfl, b2, Fc1⟩)
    have z2 : w0.heap.size ≤ w2.heap.size := by have := b2.size; (try simp at this); omega
    have N0_2 : Box3 w2 (w0.heap.size) (.bool false) (.slice none 0 0) (.slice none 0 0) := Box3.keep N0_1 (show More w1 w2 from mC)
    refine hK.out _ _ ?_ (fun hHeld => ?_)
    · exact mC2
    clear hK K
    (try simp only [Act.put, tkA, tkB, tkC])
    refine wpAnyH_ready (rs := [4, 10]) (by kernel_rfl) (by simp) ?_
    refine AllReadyH.cons (o := ⟨some 35, _, _, _, _, _⟩) rfl (fun K hK => ?_) ?_
    ·
     go_simp
     (go_at_call 18; (with_reducible refine (spec_CellSideL _ x _ p _ (Ty.at_more (Ty.fresh_at Fc0) (Turns.more (by ((repeat (first | (with_reducible apply Turns.drew) | (with_reducible apply Turns.drewN) | (with_reducible apply Turns.alloc))); (with_reducible refine Turns.via b2 ?_); (repeat (first | (with_reducible apply Turns.drew) | (with_reducible apply Turns.drewN) | (with_reducible apply Turns.alloc))); exact Turns.refl _ _)))) Hs0.out (Ty.at_more (Ty.fresh_at Fc1) (Turns.more (by ((repeat (first | (with_reducible apply Turns.drew) | (with_reducible apply Turns.drewN) | (with_reducible apply Turns.alloc))); exact Turns.refl _ _)))) Hs1.out r1 r2 f0 ER1.out ER2.out EF0.out).mono ?_); rintro e w3 ⟨ya1, yn1, yc1, yd1, ym1, ye1, ya2, yn2, yc2, yd2, ym2, ye2, rfl, b3, F9⟩; have F9h := Lib.hid F9; clear F9)
     have z3 : w0.heap.size ≤ w3.heap.size := by have := b3.size; (try simp at this); omega
     have N0_3 : Box3 w3 (w0.heap.size) (.bool false) (.slice none 0 0) (.slice none 0 0) := Box3.keep N0_2 (show More w2 w3 from mC)
     have n0c0 := N0_3.c0; have n0c1 := N0_3.c1; have n0c2 := N0_3.c2; have n0fr := N0_3.fr; have n0lt := N0_3.lt
     refine hK.out _ _ ?_ (fun hHeld => ?_)
     · exact mC2
     clear hK K
     (try simp only [Act.put, tkA, tkB, tkC])
     refine tk (hQ := fun _ _ _ h => hP _ _ _ _ _ h) (v := ?_) 5 ⟨some 30, _, _, _, _, _⟩ rfl ?_ ?_
     rotate_left 2
     · (intro w hSw; (try dsimp only at hSw); go_simp; (try with_reducible rfl))
     (try simp only [Act.put, tkA, tkB, tkC])
     refine tk (hQ := fun _ _ _ h => hP _ _ _ _ _ h) (v := ?_) 6 ⟨some 36, _, _, _, _, _⟩ rfl ?_ ?_
     rotate_left 2
     · (intro w hSw; (try dsimp only at hSw); go_simp; (try with_reducible rfl))
     (try simp only [Act.put, tkA, tkB, tkC])
     refine tk (hQ := fun _ _ _ h => hP _ _ _ _ _ h) (v := ?_) 7 ⟨some 37, _, _, _, _, _⟩ rfl ?_ ?_
     rotate_left 2
     · (intro w hSw; (try dsimp only at hSw); go_simp; (try with_reducible rfl))
     (try simp only [Act.put, tkA, tkB, tkC])
     refine tk (hQ := fun _ _ _ h => hP _ _ _ _ _ h) (v := ?_) 8 ⟨some 38, _, _, _, _, _⟩ rfl ?_ ?_
     rotate_left 2
     · (intro w hSw; (try dsimp only at hSw); go_simp; (try with_reducible rfl))
     (try simp only [Act.put, tkA, tkB, tkC])
     refine wpAnyH_ready (rs := [10]) (by kernel_rfl) (by simp) ?_
     refine AllReadyH.cons (o := ⟨some 7, _, _, _, _, _⟩) rfl (fun K hK => ?_) AllReadyH.nil
     go_simp
     refine hK.out _ _ ?_ (fun hHeld => ?_)
     · exact mC2
     clear hK K
     (try simp only [Act.put, tkA, tkB, tkC])
     refine wpAnyH_ready (rs := [11]) (by kernel_rfl) (by simp) ?_
     refine AllReadyH.cons (o := ⟨none, _, _, _, _, _⟩) rfl (fun K hK => ?_) AllReadyH.nil
     go_simp
     refine hK.out _ _ ?_ (fun hHeld => ?_)
     · exact mC2
     clear hK K
     (try simp only [Act.put, tkA, tkB, tkC])
     refine wpAnyH_ready (rs := [12]) (by kernel_rfl) (by simp) ?_
     refine AllReadyH.cons (o := ⟨none, _, _, _, _, _⟩) rfl (fun K hK => ?_) AllReadyH.nil
     go_simp
     refine hK.out _ _ ?_ (fun hHeld => ?_)
     · exact mC2
     clear hK K
     (try simp only [Act.put, tkA, tkB, tkC])
     refine wpAnyH_ready (rs := [13]) (by kernel_rfl) (by simp) ?_
     refine AllReadyH.cons (o := ⟨some 8, _, _, _, _, _⟩) rfl (fun K hK => ?_) AllReadyH.nil
     go_simp
     refine hK.out _ _ ?_ (fun hHeld => ?_)
     · exact mC2
     clear hK K
     (try simp only [Act.put, tkA, tkB, tkC])
     refine wpAnyH_done (by kernel_rfl) ?_ _
     have s1 := b1.size; (try simp at s1); have s2 := b2.size; (try simp at s2); have s3 := b3.size; (try simp at s3)
     refine HQ.out _ _ _ _ _ _ _ _ _ (w0.heap.size) (w3.heap.size) ya1 yn1 yc1 yd1 ym1 ye1 ya2 yn2 yc2 yd2 ym2 ye2 _ ?_
     exact two_el mC F9h.out (by (try simp) <;> omega) N0_3 (by (try simp) <;> omega) (by (try simp) <;> omega)
    refine AllReadyH.cons (o := ⟨some 7, _, _, _, _, _⟩) rfl (fun K hK => ?_) AllReadyH.nil
    go_simp
    refine hK.out _ _ ?_ (fun hHeld => ?_)
    · exact mC2
    clear hK K
    (try simp only [Act.put, tkA, tkB, tkC])
    refine wpAnyH_ready (rs := [4]) (by kernel_rfl) (by simp) ?_
    refine AllReadyH.cons (o := ⟨some 35, _, _, _, _, _⟩) rfl (fun K hK => ?_) AllReadyH.nil
    go_simp
    (go_at_call 18; (with_reducible refine (spec_CellSideL _ x _ p _ (Ty.at_more (Ty.fresh_at Fc0) (Turns.more (by ((repeat (first | (with_reducible apply Turns.drew) | (with_reducible apply Turns.drewN) | (with_reducible apply Turns.alloc))); (with_reducible refine Turns.via b2 ?_); (repeat (first | (with_reducible apply Turns.drew) | (with_reducible apply Turns.drewN) | (with_reducible apply Turns.alloc))); exact Turns.refl _ _)))) Hs0.out (Ty.at_more (Ty.fresh_at Fc1) (Turns.more (by ((repeat (first | (with_reducible apply Turns.drew) | (with_reducible apply Turns.drewN) | (with_reducible apply Turns.alloc))); exact Turns.refl _ _)))) Hs1.out r1 r2 f0 ER1.out ER2.out EF0.out).mono ?_); rintro e w3 ⟨ya1, yn1, yc1, yd1, ym1, ye1, ya2, yn2, yc2, yd2, ym2, ye2, rfl, b3, F9⟩; have F9h := Lib.hid F9; clear F9)
    have z3 : w0.heap.size ≤ w3.heap.size := by have := b3.size; (try simp at this); omega
    have N0_3 : Box3 w3 (w0.heap.size) (.bool false) (.slice none 0 0) (.slice none 0 0) := Box3.keep N0_2 (show More w2 w3 from mC)
    have N1_3 : Box3 w3 (w2.heap.size) (.bool false) (.slice none 0 0) (.slice none 0 0) := Box3.new (by simp) b3
    have npq : ¬ (w0.heap.size = w2.heap.size) := by have s1 := b1.size; (try simp at s1); have s2 := b2.size; (try simp at s2); have s3 := b3.size; (try simp at s3); omega
    have nqp : ¬ (w2.heap.size = w0.heap.size) := by have s1 := b1.size; (try simp at s1); have s2 := b2.size; (try simp at s2); have s3 := b3.size; (try simp at s3); omega
    have n0c0 := N0_3.c0; have n0c1 := N0_3.c1; have n0c2 := N0_3.c2; have n0fr := N0_3.fr; have n0lt := N0_3.lt
    have n1c0 := N1_3.c0; have n1c1 := N1_3.c1; have n1c2 := N1_3.c2; have n1fr := N1_3.fr; have n1lt := N1_3.lt
    refine hK.out _ _ ?_ (fun hHeld => ?_)
    · exact mC2
    clear hK K
    (try simp only [Act.put, tkA, tkB, tkC])
    refine tk (hQ := fun _ _ _ h => hP _ _ _ _ _ h) (v := ?_) 5 ⟨some 30, _, _, _, _, _⟩ rfl ?_ ?_
    rotate_left 2
    · (intro w hSw; (try dsimp only at hSw); go_simp; (try with_reducible rfl))
    (try simp only [Act.put, tkA, tkB, tkC])
    refine tk (hQ := fun _ _ _ h => hP _ _ _ _ _ h) (v := ?_) 6 ⟨some 36, _, _, _, _, _⟩ rfl ?_ ?_
    rotate_left 2
    · (intro w hSw; (try dsimp only at hSw); go_simp; (try with_reducible rfl))
    (try simp only [Act.put, tkA, tkB, tkC])
    refine tk (hQ := fun _ _ _ h => hP _ _ _ _ _ h) (v := ?_) 7 ⟨some 37, _, _, _, _, _⟩ rfl ?_ ?_
    rotate_left 2
    · (intro w hSw; (try dsimp only at hSw); go_simp; (try with_reducible rfl))
    (try simp only [Act.put, tkA, tkB, tkC])
    refine tk (hQ := fun _ _ _ h => hP _ _ _ _ _ h) (v := ?_) 8 ⟨some 38, _, _, _, _, _⟩ rfl ?_ ?_
    rotate_left 2
    · (intro w hSw; (try dsimp only at hSw); go_simp; (try with_reducible rfl))
    (try simp only [Act.put, tkA, tkB, tkC])
    refine wpAnyH_ready (rs := [11]) (by kernel_rfl) (by simp) ?_
    refine AllReadyH.cons (o := ⟨none, _, _, _, _, _⟩) rfl (fun K hK => ?_) AllReadyH.nil
    go_simp
    refine hK.out _ _ ?_ (fun hHeld => ?_)
    · exact mC2
    clear hK K
    (try simp only [Act.put, tkA, tkB, tkC])
    refine wpAnyH_ready (rs := [12]) (by kernel_rfl) (by simp) ?_
    refine AllReadyH.cons (o := ⟨none, _, _, _, _, _⟩) rfl (fun K hK => ?_) AllReadyH.nil
    go_simp
    refine hK.out _ _ ?_ (fun hHeld => ?_)
    · exact mC2
    clear hK K
    (try simp only [Act.put, tkA, tkB, tkC])
    refine wpAnyH_ready (rs := [13]) (by kernel_rfl) (by simp) ?_
    refine AllReadyH.cons (o := ⟨some 8, _, _, _, _, _⟩) rfl (fun K hK => ?_) AllReadyH.nil
    go_simp
    refine hK.out _ _ ?_ (fun hHeld => ?_)
    · exact mC2
    clear hK K
    (try simp only [Act.put, tkA, tkB, tkC])
    refine wpAnyH_done (by kernel_rfl) ?_ _
    have s1 := b1.size; (try simp at s1); have s2 := b2.size; (try simp at s2); have s3 := b3.size; (try simp at s3)
    refine HQ.out _ _ _ _ _ _ _ _ _ (w0.heap.size) (w2.heap.size) ya1 yn1 yc1 yd1 ym1 ye1 ya2 yn2 yc2 yd2 ym2 ye2 _ ?_
    exact two_ee mC F9h.out (by (try simp) <;> omega) N0_3 N1_3 (by (try simp) <;> omega) (by (try simp) <;> omega) (by (try simp) <;> omega) (by (try simp) <;> omega) (by (try simp) <;> omega)
   refine AllReadyH.cons (o := ⟨some 7, _, _, _, _, _⟩) rfl (fun K hK => ?_) AllReadyH.nil
   go_simp
   refine hK.out _ _ ?_ (fun hHeld => ?_)
   · exact mC2
   clear hK K
   (try simp only [Act.put, tkA, tkB, tkC])
   refine wpAnyH_ready (rs := [3]) (by kernel_rfl) (by simp) ?_
   refine AllReadyH.cons (o := ⟨some 34, _, _, _, _, _⟩) rfl (fun K hK => ?_) AllReadyH.nil
   go_simp
   (go_at_call 20; (with_reducible refine (laws_toRat _ p _ (Ty.at_more HV1.out mC) Hs1.out).mono ?_); rintro e w2 ⟨c1, rfl, b2, Fc1⟩)
   have z2 : w0.heap.size ≤ w2.heap.size := by have := b2.size; (try simp at this); omega
   have N0_2 : Box3 w2 (w0.heap.size) (.bool false) (.slice none 0 0) (.slice none 0 0) := Box3.keep N0_1 (show More w1 w2 from mC)
   have N1_2 : Box3 w2 (w1.heap.size) (.bool false) (.slice none 0 0) (.slice none 0 0) := Box3.new (by simp) b2
   refine hK.out _ _ ?_ (fun hHeld => ?_)
   · exact mC2
   clear hK K
   (try simp only [Act.put, tkA, tkB, tkC])
   refine wpAnyH_ready (rs := [4]) (by kernel_rfl) (by simp) ?_
   refine AllReadyH.cons (o := ⟨some 35, _, _, _, _, _⟩) rfl (fun K hK => ?_) AllReadyH.nil
   go_simp
   (go_at_call 18; (with_reducible refine (spec_CellSideL _ x _ p _ (Ty.at_more (Ty.fresh_at Fc0) (Turns.more (by ((repeat (first | (with_reducible apply Turns.drew) | (with_reducible apply Turns.drewN) | (with_reducible apply Turns.alloc))); (with_reducible refine Turns.via b2 ?_); (repeat (first | (with_reducible apply Turns.drew) | (with_reducible apply Turns.drewN) | (with_reducible apply Turns.alloc))); exact Turns.refl _ _)))) Hs0.out (Ty.at_more (Ty.fresh_at Fc1) (Turns.more (by ((repeat (first | (with_reducible apply Turns.drew) | (with_reducible apply Turns.drewN) | (with_reducible apply Turns.alloc))); exact Turns.refl _ _)))) Hs1.out r1 r2 f0 ER1.out ER2.out EF0.out).mono ?_); rintro e w3 ⟨ya1, yn1, yc1, yd1, ym1, ye1, ya2, yn2, yc2, yd2, ym2, ye2, rfl, b3, F9⟩; have F9h := Lib.hid F9; clear F9)
   have z3 : w0.heap.size ≤ w3.heap.size := by have := b3.size; (try simp at this); omega
   have N0_3 : Box3 w3 (w0.heap.size) (.bool false) (.slice none 0 0) (.slice none 0 0) := Box3.keep N0_2 (show More w2 w3 from mC)
   have N1_3 : Box3 w3 (w1.heap.size) (.bool false) (.slice none 0 0) (.slice none 0 0) := Box3.keep N1_2 (show More w2 w3 from mC)
   have npq : ¬ (w0.heap.size = w1.heap.size) := by have s1 := b1.size; (try simp at s1); have s2 := b2.size; (try simp at s2); have s3 := b3.size; (try simp at s3); omega
   have nqp : ¬ (w1.heap.size = w0.heap.size) := by have s1 := b1.size; (try simp at s1); have s2 := b2.size; (try simp at s2); have s3 := b3.size; (try simp at s3); omega
   have n0c0 := N0_3.c0; have n0c1 := N0_3.c1; have n0c2 := N0_3.c2; have n0fr := N0_3.fr; have n0lt := N0_3.lt
   have n1c0 := N1_3.c0; have n1c1 := N1_3.c1; have n1c2 := N1_3.c2; have n1fr := N1_3.fr; have n1lt := N1_3.lt
   refine hK.out _ _ ?_ (fun hHeld => ?_)
   · exact mC2
   clear hK K
   (try simp only [Act.put, tkA, tkB, tkC])
   refine tk (hQ := fun _ _ _ h => hP _ _ _ _ _ h) (v := ?_) 5 ⟨some 30, _, _, _, _, _⟩ rfl ?_ ?_
   rotate_left 2
   · (intro w hSw; (try dsimp only at hSw); go_simp; (try with_reducible rfl))
   (try simp only [Act.put, tkA, tkB, tkC])
   refine tk (hQ := fun _ _ _ h => hP _ _ _ _ _ h) (v := ?_) 6 ⟨some 36, _, _, _, _, _⟩ rfl ?_ ?_
   rotate_left 2
   · (intro w hSw; (try dsimp only at hSw); go_simp; (try with_reducible rfl))
   (try simp only [Act.put, tkA, tkB, tkC])
   refine tk (hQ := fun _ _ _ h => hP _ _ _ _ _ h) (v := ?_) 7 ⟨some 37, _, _, _, _, _⟩ rfl ?_ ?_
   rotate_left 2
   · (intro w hSw; (try dsimp only at hSw); go_simp; (try with_reducible rfl))
   (try simp only [Act.put, tkA, tkB, tkC])
   refine tk (hQ := fun _ _ _ h => hP _ _ _ _ _ h) (v := ?_) 8 ⟨some 38, _, _, _, _, _⟩ rfl ?_ ?_
   rotate_left 2
   · (intro w hSw; (try dsimp only at hSw); go_simp; (try with_reducible rfl))
   (try simp only [Act.put, tkA, tkB, tkC])
   refine wpAnyH_ready (rs := [11]) (by kernel_rfl) (by simp) ?_
   refine AllReadyH.cons (o := ⟨none, _, _, _, _, _⟩) rfl (fun K hK => ?_) AllReadyH.nil
   go_simp
   refine hK.out _ _ ?_ (fun hHeld => ?_)
   · exact mC2
   clear hK K
   (try simp only [Act.put, tkA, tkB, tkC])
   refine wpAnyH_ready (rs := [12]) (by kernel_rfl) (by simp) ?_
   refine AllReadyH.cons (o := ⟨none, _, _, _, _, _⟩) rfl (fun K hK => ?_) AllReadyH.nil
   go_simp
   refine hK.out _ _ ?_ (fun hHeld => ?_)
   · exact mC2
   clear hK K
   (try simp only [Act.put, tkA, tkB, tkC])
   refine wpAnyH_ready (rs := [13]) (by kernel_rfl) (by simp) ?_
   refine AllReadyH.cons (o := ⟨some 8, _, _, _, _, _⟩) rfl (fun K hK => ?_) AllReadyH.nil
   go_simp
   refine hK.out _ _ ?_ (fun hHeld => ?_)
   · exact mC2
   clear hK K
   (try simp only [Act.put, tkA, tkB, tkC])
   refine wpAnyH_done (by kernel_rfl) ?_ _
   have s1 := b1.size; (try simp at s1); have s2 := b2.size; (try simp at s2); have s3 := b3.size; (try simp at s3)
   refine HQ.out _ _ _ _ _ _ _ _ _ (w0.heap.size) (w1.heap.size) ya1 yn1 yc1 yd1 ym1 ye1 ya2 yn2 yc2 yd2 ym2 ye2 _ ?_
   exact two_ee mC F9h.out (by (try simp) <;> omega) N0_3 N1_3 (by (try simp) <;> omega) (by (try simp) <;> omega) (by (try simp) <;> omega) (by (try simp) <;> omega) (by (try simp) <;> omega)
  refine AllReadyH.cons (o := ⟨some 7, _, _, _, _, _⟩) rfl (fun K hK => ?_) AllReadyH.nil
  go_simp
  refine hK.out _ _ ?_ (fun hHeld => ?_)
  · exact mC2
  clear hK K
  (try simp only [Act.put, tkA, tkB, tkC])
  refine wpAnyH_ready (rs := [1]) (by kernel_rfl) (by simp) ?_
  refine AllReadyH.cons (o := ⟨some 32, _, _, _, _, _⟩) rfl (fun K hK => ?_) AllReadyH.nil
  go_simp
  (go_at_call 19; (with_reducible refine (calls_arg hV0.out (laws_toCell _ x _ (Ty.at_more HV0.out mC) Hs0.out)).mono ?_); rintro e w1 ⟨c0, rfl, b1, Fc0⟩)
  have z1 : w0.heap.size ≤ w1.heap.size := by have := b1.size; (try simp at this); omega
  have N0_1 : Box3 w1 (w0.heap.size) (.bool false) (.slice none 0 0) (.slice none 0 0) := Box3.new (by simp) (More.un (More.undrew b1))
  have N1_1 : Box3 w1 (w0.heap.size + 1) (.bool false) (.slice none 0 0) (.slice none 0 0) := Box3.new (by simp) (More.undrew b1)
  refine hK.out _ _ ?_ (fun hHeld => ?_)
  · exact mC2
  clear hK K
  (try simp only [Act.put, tkA, tkB, tkC])
  refine wpAnyH_ready (rs := [3]) (by kernel_rfl) (by simp) ?_
  refine AllReadyH.cons (o := ⟨some 34, _, _, _, _, _⟩) rfl (fun K hK => ?_) AllReadyH.nil
  go_simp
  (go_at_call 20; (with_reducible refine (laws_toRat _ p _ (Ty.at_more HV1.out mC) Hs1.out).mono ?_); rintro e w2 ⟨c1, rfl, b2, Fc1⟩)
  have z2 : w0.heap.size ≤ w2.heap.size := by have := b2.size; (try simp at this); omega
  have N0_2 : Box3 w2 (w0.heap.size) (.bool false) (.slice none 0 0) (.slice none 0 0) := Box3.keep N0_1 (show More w1 w2 from mC)
  have N1_2 : Box3 w2 (w0.heap.size + 1) (.bool false) (.slice none 0 0) (.slice none 0 0) := Box3.keep N1_1 (show More w1 w2 from mC)
  refine hK.out _ _ ?_ (fun hHeld => ?_)
  · exact mC2
  clear hK K
  (try simp only [Act.put, tkA, tkB, tkC])
  refine wpAnyH_ready (rs := [4]) (by kernel_rfl) (by simp) ?_
  refine AllReadyH.cons (o := ⟨some 35, _, _, _, _, _⟩) rfl (fun K hK => ?_) AllReadyH.nil
  go_simp
  (go_at_call 18; (with_reducible refine (spec_CellSideL _ x _ p _ (Ty.at_more (Ty.fresh_at Fc0) (Turns.more (by ((repeat (first | (with_reducible apply Turns.drew) | (with_reducible apply Turns.drewN) | (with_reducible apply Turns.alloc))); (with_reducible refine Turns.via b2 ?_); (repeat (first | (with_reducible apply Turns.drew) | (with_reducible apply Turns.drewN) | (with_reducible apply Turns.alloc))); exact Turns.refl _ _)))) Hs0.out (Ty.at_more (Ty.fresh_at Fc1) (Turns.more (by ((repeat (first | (with_reducible apply Turns.drew) | (with_reducible apply Turns.drewN) | (with_reducible apply Turns.alloc))); exact Turns.refl _ _)))) Hs1.out r1 r2 f0 ER1.out ER2.out EF0.out).mono ?_); rintro e w3 ⟨ya1, yn1, yc1, yd1, ym1, ye1, ya2, yn2, yc2, yd2, ym2, ye2, rfl, b3, F9⟩; have F9h := Lib.hid F9; clear F9)
  have z3 : w0.heap.size ≤ w3.heap.size := by have := b3.size; (try simp at this); omega
  have N0_3 : Box3 w3 (w0.heap.size) (.bool false) (.slice none 0 0) (.slice none 0 0) := Box3.keep N0_2 (show More w2 w3 from mC)
  have N1_3 : Box3 w3 (w0.heap.size + 1) (.bool false) (.slice none 0 0) (.slice none 0 0) := Box3.keep N1_2 (show More w2 w3 from mC)
  have npq : ¬ (w0.heap.size = w0.heap.size + 1) := by have s1 := b1.size; (try simp at s1); have s2 := b2.size; (try simp at s2); have s3 := b3.size; (try simp at s3); omega
  have nqp : ¬ (w0.heap.size + 1 = w0.heap.size) := by have s1 := b1.size; (try simp at s1); have s2 := b2.size; (try simp at s2); have s3 := b3.size; (try simp at s3); omega
  have n0c0 := N0_3.c0; have n0c1 := N0_3.c1; have n0c2 := N0_3.c2; have n0fr := N0_3.fr; have n0lt := N0_3.lt
  have n1c0 := N1_3.c0; have n1c1 := N1_3.c1; have n1c2 := N1_3.c2; have n1fr := N1_3.fr; have n1lt := N1_3.lt
  refine hK.out _ _ ?_ (fun hHeld => ?_)
  · exact mC2
  clear hK K
  (try simp only [Act.put, tkA, tkB, tkC])
  refine tk (hQ := fun _ _ _ h => hP _ _ _ _ _ h) (v := ?_) 5 ⟨some 30, _, _, _, _, _⟩ rfl ?_ ?_
  rotate_left 2
  · (intro w hSw; (try dsimp only at hSw); go_simp; (try with_reducible rfl))
  (try simp only [Act.put, tkA, tkB, tkC])
  refine tk (hQ := fun _ _ _ h => hP _ _ _ _ _ h) (v := ?_) 6 ⟨some 36, _, _, _, _, _⟩ rfl ?_ ?_
  rotate_left 2
  · (intro w hSw; (try dsimp only at hSw); go_simp; (try with_reducible rfl))
  (try simp only [Act.put, tkA, tkB, tkC])
  refine tk (hQ := fun _ _ _ h => hP _ _ _ _ _ h) (v := ?_) 7 ⟨some 37, _, _, _, _, _⟩ rfl ?_ ?_
  rotate_left 2
  · (intro w hSw; (try dsimp only at hSw); go_simp; (try with_reducible rfl))
  (try simp only [Act.put, tkA, tkB, tkC])
  refine tk (hQ := fun _ _ _ h => hP _ _ _ _ _ h) (v := ?_) 8 ⟨some 38, _, _, _, _, _⟩ rfl ?_ ?_
  rotate_left 2
  · (intro w hSw; (try dsimp only at hSw); go_simp; (try with_reducible rfl))
  (try simp only [Act.put, tkA, tkB, tkC])
  refine wpAnyH_ready (rs := [11]) (by kernel_rfl) (by simp) ?_
  refine AllReadyH.cons (o := ⟨none, _, _, _, _, _⟩) rfl (fun K hK => ?_) AllReadyH.nil
  go_simp
  refine hK.out _ _ ?_ (fun hHeld => ?_)
  · exact mC2
  clear hK K
  (try simp only [Act.put, tkA, tkB, tkC])
  refine wpAnyH_ready (rs := [12]) (by kernel_rfl) (by simp) ?_
  refine AllReadyH.cons (o := ⟨none, _, _, _, _, _⟩) rfl (fun K hK => ?_) AllReadyH.nil
  go_simp
  refine hK.out _ _ ?_ (fun hHeld => ?_)
  · exact mC2
  clear hK K
  (try simp only [Act.put, tkA, tkB, tkC])
  refine wpAnyH_ready (rs := [13]) (by kernel_rfl) (by simp) ?_
  refine AllReadyH.cons (o := ⟨some 8, _, _, _, _, _⟩) rfl (fun K hK => ?_) AllReadyH.nil
  go_simp
  refine hK.out _ _ ?_ (fun hHeld => ?_)
  · exact mC2
  clear hK K
  (try simp only [Act.put, tkA, tkB, tkC])
  refine wpAnyH_done (by kernel_rfl) ?_ _
  have s1 := b1.size; (try simp at s1); have s2 := b2.size; (try simp at s2); have s3 := b3.size; (try simp at s3)
  refine HQ.out _ _ _ _ _ _ _ _ _ (w0.heap.size) (w0.heap.size + 1) ya1 yn1 yc1 yd1 ym1 ye1 ya2 yn2 yc2 yd2 ym2 ye2 _ ?_
  exact two_ee mC F9h.out (by (try simp) <;> omega) N0_3 N1_3 (by (try simp) <;> omega) (by (try simp) <;> omega) (by (try simp) <;> omega) (by (try simp) <;> omega) (by (try simp) <;> omega)
 refine AllReadyH.cons (o := ⟨some 7, _, _, _, _, _⟩) rfl (fun K hK => ?_) AllReadyH.nil
 go_simp
 refine hK.out _ _ ?_ (fun hHeld => ?_)
 · exact mC2
 clear hK K
 (try simp only [Act.put, tkA, tkB, tkC])
 refine wpAnyH_ready (rs := [1, 9]) (by kernel_rfl) (by simp) ?_
 refine AllReadyH.cons (o := ⟨some 32, _, _, _, _, _⟩) rfl (fun K hK => ?_) ?_
 ·
  go_simp
  (go_at_call 19; (with_reducible refine (calls_arg hV0.out (laws_toCell _ x _ (Ty.at_more HV0.out mC) Hs0.out)).mono ?_); rintro e w1 ⟨c0, rfl, b1, Fc0⟩)
  have z1 : w0.heap.size ≤ w1.heap.size := by have := b1.size; (try simp at this); omega
  have N1_1 : Box3 w1 (w0.heap.size) (.bool false) (.slice none 0 0) (.slice none 0 0) := Box3.new (by simp) (More.undrew b1)
  refine hK.out _ _ ?_ (fun hHeld => ?_)
  · exact mC2
  clear hK K
  (try simp only [Act.put, tkA, tkB, tkC])
  refine wpAnyH_ready (rs := [3, 9]) (by kernel_rfl) (by simp) ?_
  refine AllReadyH.cons (o := ⟨some 34, _, _, _, _, _⟩) rfl (fun K hK => ?_) ?_
  ·
   go_simp
   (go_at_call 20; (with_reducible refine (laws_toRat _ p _ (Ty.at_more HV1.out mC) Hs1.out).mono ?_); rintro e w2 ⟨c1, rfl, b2, Fc1⟩)
   have z2 : w0.heap.size ≤ w2.heap.size := by have := b2.size; (try simp at this); omega
   have N1_2 : Box3 w2 (w0.heap.size) (.bool false) (.slice none 0 0) (.slice none 0 0) := Box3.keep N1_1 (show More w1 w2 from mC)
   refine hK.out _ _ ?_ (fun hHeld => ?_)
   · exact mC2
   clear hK K
   (try simp only [Act.put, tkA, tkB, tkC])
   refine wpAnyH_ready (rs := [4, 9]) (by kernel_rfl) (by simp) ?_
   refine AllReadyH.cons (o := ⟨some 35, _, _, _, _, _⟩) rfl (fun K hK => ?_) ?_
   ·
    go_simp
    (go_at_call 18; (with_reducible refine (spec_CellSideL _ x _ p _ (Ty.at_more (Ty.fresh_at Fc0) (Turns.more (by ((repeat (first | (with_reducible apply Turns.drew) | (with_reducible apply Turns.drewN) | (with_reducible apply Turns.alloc))); (with_reducible refine Turns.via b2 ?_); (repeat (first | (with_reducible apply Turns.drew) | (with_reducible apply Turns.drewN) | (with_reducible apply Turns.alloc))); exact Turns.refl _ _)))) Hs0.out (Ty.at_more (Ty.fresh_at Fc1) (Turns.more (by ((repeat (first | (with_reducible apply Turns.drew) | (with_reducible apply Turns.drewN) | (with_reducible apply Turns.alloc))); exact Turns.refl _ _)))) Hs1.out r1 r2 f0 ER1.out ER2.out EF0.out).mono ?_); rintro e w3 ⟨ya1, yn1, yc1, yd1, ym1, ye1, ya2, yn2, yc2, yd2, ym2, ye2, rfl, b3, F9⟩; have F9h := Lib.hid F9; clear F9)
    have z3 : w0.heap.size ≤ w3.heap.size := by have := b3.size; (try simp at this); omega
    have N1_3 : Box3 w3 (w0.heap.size) (.bool false) (.slice none 0 0) (.slice none 0 0) := Box3.keep N1_2 (show More w2 w3 from mC)
    have n1c0 := N1_3.c0; have n1c1 := N1_3.c1; have n1c2 := N1_3.c2; have n1fr := N1_3.fr; have n1lt := N1_3.lt
    refine hK.out _ _ ?_ (fun hHeld => ?_)
    · exact mC2
    clear hK K
    (try simp only [Act.put, tkA, tkB, tkC])
    refine tk (hQ := fun _ _ _ h => hP _ _ _ _ _ h) (v := ?_) 5 ⟨some 30, _, _, _, _, _⟩ rfl ?_ ?_
    rotate_left 2
    · (intro w hSw; (try dsimp only at hSw); go_simp; (try with_reducible rfl))
    (try simp only [Act.put, tkA, tkB, tkC])
    refine tk (hQ := fun _ _ _ h => hP _ _ _ _ _ h) (v := ?_) 6 ⟨some 36, _, _, _, _, _⟩ rfl ?_ ?_
    rotate_left 2
    · (intro w hSw; (try dsimp only at hSw); go_simp; (try with_reducible rfl))
    (try simp only [Act.put, tkA, tkB, tkC])
    refine tk (hQ := fun _ _ _ h => hP _ _ _ _ _ h) (v := ?_) 7 ⟨some 37, _, _, _, _, _⟩ rfl ?_ ?_
    rotate_left 2
    · (intro w hSw; (try dsimp only at hSw); go_simp; (try with_reducible rfl))
    (try simp only [Act.put, tkA, tkB, tkC])
    refine tk (hQ := fun _ _ _ h => hP _ _ _ _ _ h) (v := ?_) 8 ⟨some 38, _, _, _, _, _⟩ rfl ?_ ?_
    rotate_left 2
    · (intro w hSw; (try dsimp only at hSw); go_simp; (try with_reducible rfl))
    (try simp only [Act.put, tkA, tkB, tkC])
    refine wpAnyH_ready (rs := [9]) (by kernel_rfl) (by simp) ?_
    refine AllReadyH.cons (o := ⟨some 6, _, _, _, _, _⟩) rfl (fun K hK => ?_) AllReadyH.nil
    go_simp
    refine hK.out _ _ ?_ (fun hHeld => ?_)
    · exact mC2
    clear hK K
    (try simp only [Act.put, tkA, tkB, tkC])
    refine wpAnyH_ready (rs := [11]) (by kernel_rfl) (by simp) ?_
    refine AllReadyH.cons (o := ⟨none, _, _, _, _, _⟩) rfl (fun K hK => ?_) AllReadyH.nil
    go_simp
    refine hK.out _ _ ?_ (fun hHeld => ?_)
    · exact mC2
    clear hK K
    (try simp only [Act.put, tkA, tkB, tkC])
    refine wpAnyH_ready (rs := [12]) (by kernel_rfl) (by simp) ?_
    refine AllReadyH.cons (o := ⟨none, _, _, _, _, _⟩) rfl (fun K hK => ?_) AllReadyH.nil
    go_simp
    refine hK.out _ _ ?_ (fun hHeld => ?_)
    · exact mC2
    clear hK K
    (try simp only [Act.put, tkA, tkB, tkC])
    refine wpAnyH_ready (rs := [13]) (by kernel_rfl) (by simp) ?_
    refine AllReadyH.cons (o := ⟨some 8, _, _, _, _, _⟩) rfl (fun K hK => ?_) AllReadyH.nil
    go_simp
    refine hK.out _ _ ?_ (fun hHeld => ?_)
    · exact mC2
    clear hK K
    (try simp only [Act.put, tkA, tkB, tkC])
    refine wpAnyH_done (by kernel_rfl) ?_ _
    have s1 := b1.size; (try simp at s1); have s2 := b2.size; (try simp at s2); have s3 := b3.size; (try simp at s3)
    refine HQ.out _ _ _ _ _ _ _ _ _ (w3.heap.size) (w0.heap.size) ya1 yn1 yc1 yd1 ym1 ye1 ya2 yn2 yc2 yd2 ym2 ye2 _ ?_
    exact two_le mC F9h.out (by (try simp) <;> omega) N1_3 (by (try simp) <;> omega) (by (try simp) <;> omega)
   refine AllReadyH.cons (o := ⟨some 6, _, _, _, _, _⟩) rfl (fun K hK => ?_) AllReadyH.nil
   go_simp
   refine hK.out _ _ ?_ (fun hHeld => ?_)
   · exact mC2
   clear hK K
   (try simp only [Act.put, tkA, tkB, tkC])
   refine wpAnyH_ready (rs := [4]) (by kernel_rfl) (by simp) ?_
   refine AllReadyH.cons (o := ⟨some 35, _, _, _, _, _⟩) rfl (fun K hK => ?_) AllReadyH.nil
   go_simp
   (go_at_call 18; (with_reducible refine (spec_CellSideL _ x _ p _ (Ty.at_more (Ty.fresh_at Fc0) (Turns.more (by ((repeat (first | (with_reducible apply Turns.drew) | (with_reducible apply Turns.drewN) | (with_reducible apply Turns.alloc))); (with_reducible refine Turns.via b2 ?_); (repeat (first | (with_reducible apply Turns.drew) | (with_reducible apply Turns.drewN) | (with_reducible apply Turns.alloc))); exact Turns.refl _ _)))) Hs0.out (Ty.at_more (Ty.fresh_at Fc1) (Turns.more (by ((repeat (first | (with_reducible apply Turns.drew) | (with_reducible apply Turns.drewN) | (with_reducible apply Turns.alloc))); exact Turns.refl _ _)))) Hs1.out r1 r2 f0 ER1.out ER2.out EF0.out).mono ?_); rintro e w3 ⟨ya1, yn1, yc1, yd1, ym1, ye1, ya2, yn2, yc2, yd2, ym2, ye2, rfl, b3, F9⟩; have F9h := Lib.hid F9; clear F9)
   have z3 : w0.heap.size ≤ w3.heap.size := by have := b3.size; (try simp at this); omega
   have N0_3 : Box3 w3 (w2.heap.size) (.bool false) (.slice none 0 0) (.slice none 0 0) := Box3.new (by simp) b3
   have N1_3 : Box3 w3 (w0.heap.size) (.bool false) (.slice none 0 0) (.slice none 0 0) := Box3.keep N1_2 (show More w2 w3 from mC)
   have npq : ¬ (w2.heap.size = w0.heap.size) := by have s1 := b1.size; (try simp at s1); have s2 := b2.size; (try simp at s2); have s3 := b3.size; (try simp at s3); omega
   have nqp : ¬ (w0.heap.size = w2.heap.size) := by have s1 := b1.size; (try simp at s1); have s2 := b2.size; (try simp at s2); have s3 := b3.size; (try simp at s3); omega
   have n0c0 := N0_3.c0; have n0c1 := N0_3.c1; have n0c2 := N0_3.c2; have n0fr := N0_3.fr; have n0lt := N0_3.lt
   have n1c0 := N1_3.c0; have n1c1 := N1_3.c1; have n1c2 := N1_3.c2; have n1fr := N1_3.fr; have n1lt := N1_3.lt
   refine hK.out _ _ ?_ (fun hHeld => ?_)
   · exact mC2
   clear hK K
   (try simp only [Act.put, tkA, tkB, tkC])
   refine tk (hQ := fun _ _ _ h => hP _ _ _ _ _ h) (v := ?_) 5 ⟨some 30, _, _, _, _, _⟩ rfl ?_ ?_
   rotate_left 2
   · (intro w hSw; (try dsimp only at hSw); go_simp; (try with_reducible rfl))
   (try simp only [Act.put, tkA, tkB, tkC])
   refine tk (hQ := fun _ _ _ h => hP _ _ _ _ _ h) (v := ?_) 6 ⟨some 36, _, _, _, _, _⟩ rfl ?_ ?_
   rotate_left 2
   · (intro w hSw; (try dsimp only at hSw); go_simp; (try with_reducible rfl))
   (try simp only [Act.put, tkA, tkB, tkC])
   refine tk (hQ := fun _ _ _ h => hP _ _ _ _ _ h) (v := ?_) 7 ⟨some 37, _, _, _, _, _⟩ rfl ?_ ?_
   rotate_left 2
   · (intro w hSw; (try dsimp only at hSw); go_simp; (try with_reducible rfl))
   (try simp only [Act.put, tkA, tkB, tkC])
   refine tk (hQ := fun _ _ _ h => hP _ _ _ _ _ h) (v := ?_) 8 ⟨some 38, _, _, _, _, _⟩ rfl ?_ ?_
   rotate_left 2
   · (intro w hSw; (try dsimp only at hSw); go_simp; (try with_reducible rfl))
   (try simp only [Act.put, tkA, tkB, tkC])
   refine wpAnyH_ready (rs := [11]) (by kernel_rfl) (by simp) ?_
   refine AllReadyH.cons (o := ⟨none, _, _, _, _, _⟩) rfl (fun K hK => ?_) AllReadyH.nil
   go_simp
   refine hK.out _ _ ?_ (fun hHeld => ?_)
   · exact mC2
   clear hK K
   (try simp only [Act.put, tkA, tkB, tkC])
   refine wpAnyH_ready (rs := [12]) (by kernel_rfl) (by simp) ?_
   refine AllReadyH.cons (o := ⟨none, _, _, _, _, _⟩) rfl (fun K hK => ?_) AllReadyH.nil
   go_simp
   refine hK.out _ _ ?_ (fun hHeld => ?_)
   · exact mC2
   clear hK K
   (try simp only [Act.put, tkA, tkB, tkC])
   refine wpAnyH_ready (rs := [13]) (by kernel_rfl) (by simp) ?_
   refine AllReadyH.cons (o := ⟨some 8, _, _, _, _, _⟩) rfl (fun K hK => ?_) AllReadyH.nil
   go_simp
   refine hK.out _ _ ?_ (fun hHeld => ?_)
   · exact mC2
   clear hK K
   (try simp only [Act.put, tkA, tkB, tkC])
   refine wpAnyH_done (by kernel_rfl) ?_ _
   have s1 := b1.size; (try simp at s1); have s2 := b2.size; (try simp at s2); have s3 := b3.size; (try simp at s3)
   refine HQ.out _ _ _ _ _ _ _ _ _ (w2.heap.size) (w0.heap.size) ya1 yn1 yc1 yd1 ym1 ye1 ya2 yn2 yc2 yd2 ym2 ye2 _ ?_
   exact two_ee mC F9h.out (by (try simp) <;> omega) N0_3 N1_3 (by (try simp) <;> omega) (by (try simp) <;> omega) (by (try simp) <;> omega) (by (try simp) <;> omega) (by (try simp) <;> omega)
  refine AllReadyH.cons (o := ⟨some 6, _, _, _, _, _⟩) rfl (fun K hK => ?_) AllReadyH.nil
  go_simp
  refine hK.out _ _ ?_ (fun hHeld => ?_)
  · exact mC2
  clear hK K
  (try simp only [Act.put, tkA, tkB, tkC])
  refine wpAnyH_ready (rs := [3]) (by kernel_rfl) (by simp) ?_
  refine AllReadyH.cons (o := ⟨some 34, _, _, _, _, _⟩) rfl (fun K hK => ?_) AllReadyH.nil
  go_simp
  (go_at_call 20; (with_reducible refine (laws_toRat _ p _ (Ty.at_more HV1.out mC) Hs1.out).mono ?_); rintro e w2 ⟨c1, rfl, b2, Fc1⟩)
  have z2 : w0.heap.size ≤ w2.heap.size := by have := b2.size; (try simp at this); omega
  have N0_2 : Box3 w2 (w1.heap.size) (.bool false) (.slice none 0 0) (.slice none 0 0) := Box3.new (by simp) b2
  have N1_2 : Box3 w2 (w0.heap.size) (.bool false) (.slice none 0 0) (.slice none 0 0) := Box3.keep N1_1 (show More w1 w2 from mC)
  refine hK.out _ _ ?_ (fun hHeld => ?_)
  · exact mC2
  clear hK K
  (try simp only [Act.put, tkA, tkB, tkC])
  refine wpAnyH_ready (rs := [4]) (by kernel_rfl) (by simp) ?_
  refine AllReadyH.cons (o := ⟨some 35, _, _, _, _, _⟩) rfl (fun K hK => ?_) AllReadyH.nil
  go_simp
  (go_at_call 18; (with_reducible refine (spec_CellSideL _ x _ p _ (Ty.at_more (Ty.fresh_at Fc0) (Turns.more (by ((repeat (first | (with_reducible apply Turns.drew) | (with_reducible apply Turns.drewN) | (with_reducible apply Turns.alloc))); (with_reducible refine Turns.via b2 ?_); (repeat (first | (with_reducible apply Turns.drew) | (with_reducible apply Turns.drewN) | (with_reducible apply Turns.alloc))); exact Turns.refl _ _)))) Hs0.out (Ty.at_more (Ty.fresh_at Fc1) (Turns.more (by ((repeat (first | (with_reducible apply Turns.drew) | (with_reducible apply Turns.drewN) | (with_reducible apply Turns.alloc))); exact Turns.refl _ _)))) Hs1.out r1 r2 f0 ER1.out ER2.out EF0.out).mono ?_); rintro e w3 ⟨ya1, yn1, yc1, yd1, ym1, ye1, ya2, yn2, yc2, yd2, ym2, ye2, rfl, b3, F9⟩; have F9h := Lib.hid F9; clear F9)
  have z3 : w0.heap.size ≤ w3.heap.size := by have := b3.size; (try simp at this); omega
  have N0_3 : Box3 w3 (w1.heap.size) (.bool false) (.slice none 0 0) (.slice none 0 0) := Box3.keep N0_2 (show More w2 w3 from mC)
  have N1_3 : Box3 w3 (w0.heap.size) (.bool false) (.slice none 0 0) (.slice none 0 0) := Box3.keep N1_2 (show More w2 w3 from mC)
  have npq : ¬ (w1.heap.size = w0.heap.size) := by have s1 := b1.size; (try simp at s1); have s2 := b2.size; (try simp at s2); have s3 := b3.size; (try simp at s3); omega
  have nqp : ¬ (w0.heap.size = w1.heap.size) := by have s1 := b1.size; (try simp at s1); have s2 := b2.size; (try simp at s2); have s3 := b3.size; (try simp at s3); omega
  have n0c0 := N0_3.c0; have n0c1 := N0_3.c1; have n0c2 := N0_3.c2; have n0fr := N0_3.fr; have n0lt := N0_3.lt
  have n1c0 := N1_3.c0; have n1c1 := N1_3.c1; have n1c2 := N1_3.c2; have n1fr := N1_3.fr; have n1lt := N1_3.lt
  refine hK.out _ _ ?_ (fun hHeld => ?_)
  · exact mC2
  clear hK K
  (try simp only [Act.put, tkA, tkB, tkC])
  refine tk (hQ := fun _ _ _ h => hP _ _ _ _ _ h) (v := ?_) 5 ⟨some 30, _, _, _, _, _⟩ rfl ?_ ?_
  rotate_left 2
  · (intro w hSw; (try dsimp only at hSw); go_simp; (try with_reducible rfl))
  (try simp only [Act.put, tkA, tkB, tkC])
  refine tk (hQ := fun _ _ _ h => hP _ _ _ _ _ h) (v := ?_) 6 ⟨some 36, _, _, _, _, _⟩ rfl ?_ ?_
  rotate_left 2
  · (intro w hSw; (try dsimp only at hSw); go_simp; (try with_reducible rfl))
  (try simp only [Act.put, tkA, tkB, tkC])
  refine tk (hQ := fun _ _ _ h => hP _ _ _ _ _ h) (v := ?_) 7 ⟨some 37, _, _, _, _, _⟩ rfl ?_ ?_
  rotate_left 2
  · (intro w hSw; (try dsimp only at hSw); go_simp; (try with_reducible rfl))
  (try simp only [Act.put, tkA, tkB, tkC])
  refine tk (hQ := fun _ _ _ h => hP _ _ _ _ _ h) (v := ?_) 8 ⟨some 38, _, _, _, _, _⟩ rfl ?_ ?_
  rotate_left 2
  · (intro w hSw; (try dsimp only at hSw); go_simp; (try with_reducible rfl))
  (try simp only [Act.put, tkA, tkB, tkC])
  refine wpAnyH_ready (rs := [11]) (by kernel_rfl) (by simp) ?_
  refine AllReadyH.cons (o := ⟨none, _, _, _, _, _⟩) rfl (fun K hK => ?_) AllReadyH.nil
  go_simp
  refine hK.out _ _ ?_ (fun hHeld => ?_)
  · exact mC2
  clear hK K
  (try simp only [Act.put, tkA, tkB, tkC])
  refine wpAnyH_ready (rs := [12]) (by kernel_rfl) (by simp) ?_
  refine AllReadyH.cons (o := ⟨none, _, _, _, _, _⟩) rfl (fun K hK => ?_) AllReadyH.nil
  go_simp
  refine hK.out _ _ ?_ (fun hHeld => ?_)
  · exact mC2
  clear hK K
  (try simp only [Act.put, tkA, tkB, tkC])
  refine wpAnyH_ready (rs := [13]) (by kernel_rfl) (by simp) ?_
  refine AllReadyH.cons (o := ⟨some 8, _, _, _, _, _⟩) rfl (fun K hK => ?_) AllReadyH.nil
  go_simp
  refine hK.out _ _ ?_ (fun hHeld => ?_)
  · exact mC2
  clear hK K
  (try simp only [Act.put, tkA, tkB, tkC])
  refine wpAnyH_done (by kernel_rfl) ?_ _
  have s1 := b1.size; (try simp at s1); have s2 := b2.size; (try simp at s2); have s3 := b3.size; (try simp at s3)
  refine HQ.out _ _ _ _ _ _ _ _ _ (w1.heap.size) (w0.heap.size) ya1 yn1 yc1 yd1 ym1 ye1 ya2 yn2 yc2 yd2 ym2 ye2 _ ?_
  exact two_ee mC F9h.out (by (try simp) <;> omega) N0_3 N1_3 (by (try simp) <;> omega) (by (try simp) <;> omega) (by (try simp) <;> omega) (by (try simp) <;> omega) (by (try simp) <;> omega)
 refine AllReadyH.cons (o := ⟨some 6, _, _, _, _, _⟩) rfl (fun K hK => ?_) AllReadyH.nil
 go_simp
 refine hK.out _ _ ?_ (fun hHeld => ?_)
 · exact mC2
 clear hK K
 (try simp only [Act.put, tkA, tkB, tkC])
 refine wpAnyH_ready (rs := [1]) (by kernel_rfl) (by simp) ?_
 refine AllReadyH.cons (o := ⟨some 32, _, _, _, _, _⟩) rfl (fun K hK => ?_) AllReadyH.nil
 go_simp
 (go_at_call 19; (with_reducible refine (calls_arg hV0.out (laws_toCell _ x _ (Ty.at_more HV0.out mC) Hs0.out)).mono ?_); rintro e w1 ⟨c0, rfl, b1, Fc0⟩)
 have z1 : w0.heap.size ≤ w1.heap.size := by have := b1.size; (try simp at this); omega
 have N0_1 : Box3 w1 (w0.heap.size + 1) (.bool false) (.slice none 0 0) (.slice none 0 0) := Box3.new (by simp) (More.undrew b1)
 have N1_1 : Box3 w1 (w0.heap.size) (.bool false) (.slice none 0 0) (.slice none 0 0) := Box3.new (by simp) (More.un (More.undrew b1))
 refine hK.out _ _ ?_ (fun hHeld => ?_)
 · exact mC2
 clear hK K
 (try simp only [Act.put, tkA, tkB, tkC])
 refine wpAnyH_ready (rs := [3]) (by kernel_rfl) (by simp) ?_
 refine AllReadyH.cons (o := ⟨some 34, _, _, _, _, _⟩) rfl (fun K hK => ?_) AllReadyH.nil
 go_simp
 (go_at_call 20; (with_reducible refine (laws_toRat _ p _ (Ty.at_more HV1.out mC) Hs1.out).mono ?_); rintro e w2 ⟨c1, rfl, b2, Fc1⟩)
 have z2 : w0.heap.size ≤ w2.heap.size := by have := b2.size; (try simp at this); omega
 have N0_2 : Box3 w2 (w0.heap.size + 1) (.bool false) (.slice none 0 0) (.slice none 0 0) := Box3.keep N0_1 (show More w1 w2 from mC)
 have N1_2 : Box3 w2 (w0.heap.size) (.bool false) (.slice none 0 0) (.slice none 0 0) := Box3.keep N1_1 (show More w1 w2 from mC)
 refine hK.out _ _ ?_ (fun hHeld => ?_)
 · exact mC2
 clear hK K
 (try simp only [Act.put, tkA, tkB, tkC])
 refine wpAnyH_ready (rs := [4]) (by kernel_rfl) (by simp) ?_
 refine AllReadyH.cons (o := ⟨some 35, _, _, _, _, _⟩) rfl (fun K hK => ?_) AllReadyH.nil
 go_simp
 (go_at_call 18; (with_reducible refine (spec_CellSideL _ x _ p _ (Ty.at_more (Ty.fresh_at Fc0) (Turns.more (by ((repeat (first | (with_reducible apply Turns.drew) | (with_reducible apply Turns.drewN) | (with_reducible apply Turns.alloc))); (with_reducible refine Turns.via b2 ?_); (repeat (first | (with_reducible apply Turns.drew) | (with_reducible apply Turns.drewN) | (with_reducible apply Turns.alloc))); exact Turns.refl _ _)))) Hs0.out (Ty.at_more (Ty.fresh_at Fc1) (Turns.more (by ((repeat (first | (with_reducible apply Turns.drew) | (with_reducible apply Turns.drewN) | (with_reducible apply Turns.alloc))); exact Turns.refl _ _)))) Hs1.out r1 r2 f0 ER1.out ER2.out EF0.out).mono ?_); rintro e w3 ⟨ya1, yn1, yc1, yd1, ym1, ye1, ya2, yn2, yc2, yd2, ym2, ye2, rfl, b3, F9⟩; have F9h := Lib.hid F9; clear F9)
 have z3 : w0.heap.size ≤ w3.heap.size := by have := b3.size; (try simp at this); omega
 have N0_3 : Box3 w3 (w0.heap.size + 1) (.bool false) (.slice none 0 0) (.slice none 0 0) := Box3.keep N0_2 (show More w2 w3 from mC)
 have N1_3 : Box3 w3 (w0.heap.size) (.bool false) (.slice none 0 0) (.slice none 0 0) := Box3.keep N1_2 (show More w2 w3 from mC)
 have npq : ¬ (w0.heap.size + 1 = w0.heap.size) := by have s1 := b1.size; (try simp at s1); have s2 := b2.size; (try simp at s2); have s3 := b3.size; (try simp at s3); omega
 have nqp : ¬ (w0.heap.size = w0.heap.size + 1) := by have s1 := b1.size; (try simp at s1); have s2 := b2.size; (try simp at s2); have s3 := b3.size; (try simp at s3); omega
 have n0c0 := N0_3.c0; have n0c1 := N0_3.c1; have n0c2 := N0_3.c2; have n0fr := N0_3.fr; have n0lt := N0_3.lt
 have n1c0 := N1_3.c0; have n1c1 := N1_3.c1; have n1c2 := N1_3.c2; have n1fr := N1_3.fr; have n1lt := N1_3.lt
 refine hK.out _ _ ?_ (fun hHeld => ?_)
 · exact mC2
 clear hK K
 (try simp only [Act.put, tkA, tkB, tkC])
 refine tk (hQ := fun _ _ _ h => hP _ _ _ _ _ h) (v := ?_) 5 ⟨some 30, _, _, _, _, _⟩ rfl ?_ ?_
 rotate_left 2
 · (intro w hSw; (try dsimp only at hSw); go_simp; (try with_reducible rfl))
 (try simp only [Act.put, tkA, tkB, tkC])
 refine tk (hQ := fun _ _ _ h => hP _ _ _ _ _ h) (v := ?_) 6 ⟨some 36, _, _, _, _, _⟩ rfl ?_ ?_
 rotate_left 2
 · (intro w hSw; (try dsimp only at hSw); go_simp; (try with_reducible rfl))
 (try simp only [Act.put, tkA, tkB, tkC])
 refine tk (hQ := fun _ _ _ h => hP _ _ _ _ _ h) (v := ?_) 7 ⟨some 37, _, _, _, _, _⟩ rfl ?_ ?_
 rotate_left 2
 · (intro w hSw; (try dsimp only at hSw); go_simp; (try with_reducible rfl))
 (try simp only [Act.put, tkA, tkB, tkC])
 refine tk (hQ := fun _ _ _ h => hP _ _ _ _ _ h) (v := ?_) 8 ⟨some 38, _, _, _, _, _⟩ rfl ?_ ?_
 rotate_left 2
 · (intro w hSw; (try dsimp only at hSw); go_simp; (try with_reducible rfl))
 (try simp only [Act.put, tkA, tkB, tkC])
 refine wpAnyH_ready (rs := [11]) (by kernel_rfl) (by simp) ?_
 refine AllReadyH.cons (o := ⟨none, _, _, _, _, _⟩) rfl (fun K hK => ?_) AllReadyH.nil
 go_simp
 refine hK.out _ _ ?_ (fun hHeld => ?_)
 · exact mC2
 clear hK K
 (try simp only [Act.put, tkA, tkB, tkC])
 refine wpAnyH_ready (rs := [12]) (by kernel_rfl) (by simp) ?_
 refine AllReadyH.cons (o := ⟨none, _, _, _, _, _⟩) rfl (fun K hK => ?_) AllReadyH.nil
 go_simp
 refine hK.out _ _ ?_ (fun hHeld => ?_)
 · exact mC2
 clear hK K
 (try simp only [Act.put, tkA, tkB, tkC])
 refine wpAnyH_ready (rs := [13]) (by kernel_rfl) (by simp) ?_
 refine AllReadyH.cons (o := ⟨some 8, _, _, _, _, _⟩) rfl (fun K hK => ?_) AllReadyH.nil
 go_simp
 refine hK.out _ _ ?_ (fun hHeld => ?_)
 · exact mC2
 clear hK K
 (try simp only [Act.put, tkA, tkB, tkC])
 refine wpAnyH_done (by kernel_rfl) ?_ _
 have s1 := b1.size; (try simp at s1); have s2 := b2.size; (try simp at s2); have s3 := b3.size; (try simp at s3)
 refine HQ.out _ _ _ _ _ _ _ _ _ (w0.heap.size + 1) (w0.heap.size) ya1 yn1 yc1 yd1 ym1 ye1 ya2 yn2 yc2 yd2 ym2 ye2 _ ?_
 exact two_ee mC F9h.out (by (try simp) <;> omega) N0_3 N1_3 (by (try simp) <;> omega) (by (try simp) <;> omega) (by (try simp) <;> omega) (by (try simp) <;> omega) (by (try simp) <;> omega)
end Go.Proofs.Ytnndjbomfcacfaa
