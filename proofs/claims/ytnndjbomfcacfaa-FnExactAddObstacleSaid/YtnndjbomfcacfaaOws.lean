/- Copies of scenes: the program's and the reference's. -/
import Derived.Test.YtnndjbomfcacfaaAre
import Derived.Test.YtnndjbomfcacfaaValS
import Derived.Test.YtnndjbomfcacfaaRow
namespace Go.Proofs.Ytnndjbomfcacfaa
open Go.RowKit
/-- Owned, in blocks from B on, all below T. -/
def Iv {α : Type} (S : Ty α) (B T : Nat) (W : World) (cs : List Value) (x : α) : Prop := ∃ bs, S.own bs W cs x ∧ bs.Nodup ∧ ∀ b ∈ bs, B ≤ b ∧ b < T
theorem Iv.of {α : Type} {S : Ty α} {B : Nat} {w W : World} {bs : List Nat} {cs : List Value} {x : α} (h : S.fresh B w cs x) (t : Turns bs w W) (hk : ∀ k ∈ bs, k < B) : Iv S B w.heap.size W cs x := by
  obtain ⟨bs0, h1, h2, h3⟩ := h
  exact ⟨bs0, Ty.own_turns h1 t (fun k hk1 hk2 => by have := h3 k hk1; have := hk k hk2; omega), h2, fun b hb => ⟨h3 b hb, S.own_lt h1 b hb⟩⟩
theorem Iv.at {α : Type} {S : Ty α} {B T : Nat} {W : World} {cs : List Value} {x : α} (h : Iv S B T W cs x) : S.at W cs x := by
  obtain ⟨bs, h1, _⟩ := h
  exact Ty.rd_at (S.own_rd h1)
theorem Iv.turns {α : Type} {S : Ty α} {B T : Nat} {w W : World} {bs : List Nat} {cs : List Value} {x : α} (h : Iv S B T w cs x) (t : Turns bs w W) (hk : ∀ k ∈ bs, k < B ∨ T ≤ k) : Iv S B T W cs x := by
  obtain ⟨bs0, h1, h2, h3⟩ := h
  exact ⟨bs0, Ty.own_turns h1 t (fun k hk1 hk2 => by have := h3 k hk1; have := hk k hk2; omega), h2, h3⟩
theorem scene_iv {B B1 T1 B2 T2 B3 T3 : Nat} {W : World} {u v t : Value} {s : QScene} (f0 : fVec.ok s.1) (f1 : fVec.ok s.2.1) (h1 : Iv tVecs B1 T1 W [u] s.2.2.1) (h2 : Iv tVecSS B2 T2 W [v] s.2.2.2.1) (h3 : Iv tVecs B3 T3 W [t] s.2.2.2.2)
    (o12 : T1 ≤ B2 ∨ T2 ≤ B1) (o13 : T1 ≤ B3 ∨ T3 ≤ B1) (o23 : T2 ≤ B3 ∨ T3 ≤ B2) (hB : B ≤ B1 ∧ B ≤ B2 ∧ B ≤ B3) :
    tScene.fresh B W [.int .i64 s.1.1, .int .i64 s.1.2, .int .i64 s.2.1.1, .int .i64 s.2.1.2, u, v, t] s := by
  obtain ⟨b1, p1, n1, l1⟩ := h1
  obtain ⟨b2, p2, n2, l2⟩ := h2
  obtain ⟨b3, p3, n3, l3⟩ := h3
  refine Ty.fresh_flat fVec (c1 := [.int .i64 s.1.1, .int .i64 s.1.2]) (x := s.1) rfl f0 (Ty.fresh_flat fVec (c1 := [.int .i64 s.2.1.1, .int .i64 s.2.1.2]) (x := s.2.1) rfl f1 ?_)
  refine ⟨b1 ++ (b2 ++ b3), ⟨b1, b2 ++ b3, [u], [v, t], rfl, rfl, p1, ⟨b2, b3, [v], [t], rfl, rfl, p2, p3⟩⟩, ?_, ?_⟩
  · simp only [List.nodup_append, List.mem_append]
    refine ⟨n1, ⟨n2, n3, fun a ha b hb e => ?_⟩, fun a ha b hb e => ?_⟩
    · subst e
      have := l2 a ha; have := l3 a hb
      omega
    · subst e
      have := l1 a ha
      rcases hb with hb | hb
      · have := l2 a hb; omega
      · have := l3 a hb; omega
  · intro b hb
    simp only [List.mem_append] at hb
    rcases hb with hb | hb | hb
    · have := l1 b hb; omega
    · have := l2 b hb; omega
    · have := l3 b hb; omega
theorem scene_cells {w : World} {cs : List Value} {s : QScene} (hv : tScene.at w cs s) : ∃ (a1 : Option Addr) (c1 : Nat) (a2 : Option Addr) (c2 : Nat) (a3 : Option Addr) (c3 : Nat),
    cs = [.int .i64 s.1.1, .int .i64 s.1.2, .int .i64 s.2.1.1, .int .i64 s.2.1.2, .slice a1 s.2.2.1.length c1, .slice a2 s.2.2.2.1.length c2, .slice a3 s.2.2.2.2.length c3] ∧ fVec.ok s.1 ∧ fVec.ok s.2.1 ∧
    tVecs.at w [.slice a1 s.2.2.1.length c1] s.2.2.1 ∧ tVecSS.at w [.slice a2 s.2.2.2.1.length c2] s.2.2.2.1 ∧ tVecs.at w [.slice a3 s.2.2.2.2.length c3] s.2.2.2.2 := by
  obtain ⟨k0, d0, rfl, f0, e0⟩ := at_prod hv
  obtain ⟨k1, d1, rfl, f1, e1⟩ := at_prod e0
  obtain ⟨k2, d2, rfl, f2, e2⟩ := at_prod e1
  obtain ⟨k3, d3, rfl, f3, f4⟩ := at_prod e2
  have o0 := (flat_at fVec f0).2
  have o1 := (flat_at fVec f1).2
  obtain rfl := sh_Vec f0; obtain rfl := sh_Vec f1
  obtain ⟨a1, c1, rfl⟩ := sh_sliceL f2; obtain ⟨a2, c2, rfl⟩ := sh_sliceL f3; obtain ⟨a3, c3, rfl⟩ := sh_sliceL f4
  exact ⟨a1, c1, a2, c2, a3, c3, rfl, o0, o1, f2, f3, f4⟩
theorem scene_at {w : World} {s : QScene} {u v t : Value} (f0 : fVec.ok s.1) (f1 : fVec.ok s.2.1) (h1 : tVecs.at w [u] s.2.2.1) (h2 : tVecSS.at w [v] s.2.2.2.1) (h3 : tVecs.at w [t] s.2.2.2.2) :
    tScene.at w [.int .i64 s.1.1, .int .i64 s.1.2, .int .i64 s.2.1.1, .int .i64 s.2.1.2, u, v, t] s :=
  prod_at (c1 := [.int .i64 s.1.1, .int .i64 s.1.2]) ((fVec.rd_iff _ _ _ _).2 ⟨rfl, f0⟩) (prod_at (c1 := [.int .i64 s.2.1.1, .int .i64 s.2.1.2]) ((fVec.rd_iff _ _ _ _).2 ⟨rfl, f1⟩) (prod_at (c1 := [u]) h1 (prod_at (c1 := [v]) h2 h3)))
set_option maxRecDepth 8000 in
set_option maxHeartbeats 12800000 in
theorem impl_ownScene (cs : List Value) (s : QScene) (w : World) (hv : tScene.at w cs s) (hw : wScene s ≤ 1048576) :
    Calls Try.prog 33 #[.agg cs.toArray] w fun e w' => ∃ u v t, e = .returned (.agg #[.int .i64 s.1.1, .int .i64 s.1.2, .int .i64 s.2.1.1, .int .i64 s.2.1.2, u, v, t]) ∧ More w w' ∧ tScene.fresh w.heap.size w' [.int .i64 s.1.1, .int .i64 s.1.2, .int .i64 s.2.1.1, .int .i64 s.2.1.2, u, v, t] s := by
  obtain ⟨a1, c1, a2, c2, a3, c3, rfl, o0, o1, f2, f3, f4⟩ := scene_cells hv
  have O0 := Lib.hid o0; have O1 := Lib.hid o1; have F1 := Lib.hid f2; have F2 := Lib.hid f3; have F3 := Lib.hid f4
  have L1 : Hid (s.2.2.1.length ≤ 1048576) := Lib.hid (show wVecS s.2.2.1 ≤ 1048576 by unfold wScene at hw; omega)
  have L2 : Hid (wVecSS s.2.2.2.1 ≤ 1048577) := Lib.hid (by unfold wScene at hw; omega)
  have L3 : Hid (s.2.2.2.2.length ≤ 1048576) := Lib.hid (show wVecS s.2.2.2.2 ≤ 1048576 by unfold wScene at hw; omega)
  clear hv hw o0 o1 f2 f3 f4
  show Calls Try.prog 33 #[.agg #[.int .i64 s.1.1, .int .i64 s.1.2, .int .i64 s.2.1.1, .int .i64 s.2.1.2, .slice a1 s.2.2.1.length c1, .slice a2 s.2.2.2.1.length c2, .slice a3 s.2.2.2.2.length c3]] w _
  have HC : ∀ w', Turns [w.heap.size + 1] ((w.alloc (.cells #[.int .i64 s.1.1, .int .i64 s.1.2, .int .i64 s.2.1.1, .int .i64 s.2.1.2, .slice a1 s.2.2.1.length c1, .slice a2 s.2.2.2.1.length c2, .slice a3 s.2.2.2.2.length c3] 34)).alloc (.cells #[.int .i64 0, .int .i64 0, .int .i64 0, .int .i64 0, .slice none 0 0, .slice none 0 0, .slice none 0 0] 34)) w' → w'.cell? ⟨w.heap.size, 0, none⟩ = some (.int .i64 s.1.1) ∧ w'.cell? ⟨w.heap.size, 1, none⟩ = some (.int .i64 s.1.2) ∧ w'.cell? ⟨w.heap.size, 2, none⟩ = some (.int .i64 s.2.1.1) ∧ w'.cell? ⟨w.heap.size, 3, none⟩ = some (.int .i64 s.2.1.2) ∧ w'.cell? ⟨w.heap.size, 4, none⟩ = some (.slice a1 s.2.2.1.length c1) ∧ w'.cell? ⟨w.heap.size, 5, none⟩ = some (.slice a2 s.2.2.2.1.length c2) ∧ w'.cell? ⟨w.heap.size, 6, none⟩ = some (.slice a3 s.2.2.2.2.length c3) := fun w' h => ⟨cell_heap (box_new (by simp) (More.un (More.refl _)) 0) (h.block _ (by simp <;> omega) (by simp <;> omega)), cell_heap (box_new (by simp) (More.un (More.refl _)) 1) (h.block _ (by simp <;> omega) (by simp <;> omega)), cell_heap (box_new (by simp) (More.un (More.refl _)) 2) (h.block _ (by simp <;> omega) (by simp <;> omega)), cell_heap (box_new (by simp) (More.un (More.refl _)) 3) (h.block _ (by simp <;> omega) (by simp <;> omega)), cell_heap (box_new (by simp) (More.un (More.refl _)) 4) (h.block _ (by simp <;> omega) (by simp <;> omega)), cell_heap (box_new (by simp) (More.un (More.refl _)) 5) (h.block _ (by simp <;> omega) (by simp <;> omega)), cell_heap (box_new (by simp) (More.un (More.refl _)) 6) (h.block _ (by simp <;> omega) (by simp <;> omega))⟩
  have HX : More ((w.alloc (.cells #[.int .i64 s.1.1, .int .i64 s.1.2, .int .i64 s.2.1.1, .int .i64 s.2.1.2, .slice a1 s.2.2.1.length c1, .slice a2 s.2.2.2.1.length c2, .slice a3 s.2.2.2.2.length c3] 34)).alloc (.cells #[.int .i64 0, .int .i64 0, .int .i64 0, .int .i64 0, .slice none 0 0, .slice none 0 0, .slice none 0 0] 34)) ((w.alloc (.cells #[.int .i64 s.1.1, .int .i64 s.1.2, .int .i64 s.2.1.1, .int .i64 s.2.1.2, .slice a1 s.2.2.1.length c1, .slice a2 s.2.2.2.1.length c2, .slice a3 s.2.2.2.2.length c3] 34)).alloc (.cells #[.int .i64 0, .int .i64 0, .int .i64 0, .int .i64 0, .slice none 0 0, .slice none 0 0, .slice none 0 0] 34)) := More.refl _
  have HB : ∀ w', More ((w.alloc (.cells #[.int .i64 s.1.1, .int .i64 s.1.2, .int .i64 s.2.1.1, .int .i64 s.2.1.2, .slice a1 s.2.2.1.length c1, .slice a2 s.2.2.2.1.length c2, .slice a3 s.2.2.2.2.length c3] 34)).alloc (.cells #[.int .i64 0, .int .i64 0, .int .i64 0, .int .i64 0, .slice none 0 0, .slice none 0 0, .slice none 0 0] 34)) w' → w'.cell? ⟨w.heap.size, 0, none⟩ = some (.int .i64 s.1.1) ∧ w'.cell? ⟨w.heap.size, 1, none⟩ = some (.int .i64 s.1.2) ∧ w'.cell? ⟨w.heap.size, 2, none⟩ = some (.int .i64 s.2.1.1) ∧ w'.cell? ⟨w.heap.size, 3, none⟩ = some (.int .i64 s.2.1.2) ∧ w'.cell? ⟨w.heap.size, 4, none⟩ = some (.slice a1 s.2.2.1.length c1) ∧ w'.cell? ⟨w.heap.size, 5, none⟩ = some (.slice a2 s.2.2.2.1.length c2) ∧ w'.cell? ⟨w.heap.size, 6, none⟩ = some (.slice a3 s.2.2.2.2.length c3) ∧ (∀ j, w'.frozen? ⟨w.heap.size, j, none⟩ = false) ∧ w'.cell? ⟨w.heap.size + 1, 0, none⟩ = some (.int .i64 0) ∧ w'.cell? ⟨w.heap.size + 1, 1, none⟩ = some (.int .i64 0) ∧ w'.cell? ⟨w.heap.size + 1, 2, none⟩ = some (.int .i64 0) ∧ w'.cell? ⟨w.heap.size + 1, 3, none⟩ = some (.int .i64 0) ∧ w'.cell? ⟨w.heap.size + 1, 4, none⟩ = some (.slice none 0 0) ∧ w'.cell? ⟨w.heap.size + 1, 5, none⟩ = some (.slice none 0 0) ∧ w'.cell? ⟨w.heap.size + 1, 6, none⟩ = some (.slice none 0 0) ∧ (∀ j, w'.frozen? ⟨w.heap.size + 1, j, none⟩ = false) := fun w' h => ⟨box_new (by simp) (More.un h) 0, box_new (by simp) (More.un h) 1, box_new (by simp) (More.un h) 2, box_new (by simp) (More.un h) 3, box_new (by simp) (More.un h) 4, box_new (by simp) (More.un h) 5, box_new (by simp) (More.un h) 6, fun j => box_free (by simp) (More.un h) j, box_new (by simp) h 0, box_new (by simp) h 1, box_new (by simp) h 2, box_new (by simp) h 3, box_new (by simp) h 4, box_new (by simp) h 5, box_new (by simp) h 6, fun j => box_free (by simp) h j⟩
  go_enter Try.func33, Try.ntmps33
  go_wp2_with fail
  go_region_held3 (fun w' => Turns [w.heap.size + 1] ((w.alloc (.cells #[.int .i64 s.1.1, .int .i64 s.1.2, .int .i64 s.2.1.1, .int .i64 s.2.1.2, .slice a1 s.2.2.1.length c1, .slice a2 s.2.2.2.1.length c2, .slice a3 s.2.2.2.2.length c3] 34)).alloc (.cells #[.int .i64 0, .int .i64 0, .int .i64 0, .int .i64 0, .slice none 0 0, .slice none 0 0, .slice none 0 0] 34)) w') (first | exact tC | exact mC2) (first | (go_at_call 62; (with_reducible refine (clone_vecs (.slice a1 s.2.2.1.length c1) s.2.2.1 _ (Ty.at_more F1.out mC) L1.out).mono ?_); rintro e w3 ⟨v3, rfl, hb3, f3⟩; obtain ⟨x3a, x3c, rfl⟩ := sl_len (Ty.fresh_at f3); have G3 := Lib.hid f3; clear f3; have HX3 : More ((w.alloc (.cells #[.int .i64 s.1.1, .int .i64 s.1.2, .int .i64 s.2.1.1, .int .i64 s.2.1.2, .slice a1 s.2.2.1.length c1, .slice a2 s.2.2.2.1.length c2, .slice a3 s.2.2.2.2.length c3] 34)).alloc (.cells #[.int .i64 0, .int .i64 0, .int .i64 0, .int .i64 0, .slice none 0 0, .slice none 0 0, .slice none 0 0] 34)) w3 := mC; have HB3 := HB _ HX3; have hz3 := More.size HX3; (try simp at hz3); have hb3 := hb3) | (go_at_call 62; (with_reducible refine (clone_vecs (.slice a3 s.2.2.2.2.length c3) s.2.2.2.2 _ (Ty.at_more F3.out mC) L3.out).mono ?_); rintro e w5 ⟨v5, rfl, hb5, f5⟩; obtain ⟨x5a, x5c, rfl⟩ := sl_len (Ty.fresh_at f5); have G5 := Lib.hid f5; clear f5; have HX5 : More ((w.alloc (.cells #[.int .i64 s.1.1, .int .i64 s.1.2, .int .i64 s.2.1.1, .int .i64 s.2.1.2, .slice a1 s.2.2.1.length c1, .slice a2 s.2.2.2.1.length c2, .slice a3 s.2.2.2.2.length c3] 34)).alloc (.cells #[.int .i64 0, .int .i64 0, .int .i64 0, .int .i64 0, .slice none 0 0, .slice none 0 0, .slice none 0 0] 34)) w5 := mC; have HB5 := HB _ HX5; have hz5 := More.size HX5; (try simp at hz5); have hb5 := hb5) | (go_at_call 63; (with_reducible refine (impl_ownAreas (.slice a2 s.2.2.2.1.length c2) s.2.2.2.1 _ (Ty.at_more F2.out mC) L2.out).mono ?_); rintro e w4 ⟨v4, rfl, hb4, h4⟩; have f4 := ListOwn.fresh h4; clear h4; obtain ⟨x4a, x4c, rfl⟩ := sl_len (Ty.fresh_at f4); have G4 := Lib.hid f4; clear f4; have HX4 : More ((w.alloc (.cells #[.int .i64 s.1.1, .int .i64 s.1.2, .int .i64 s.2.1.1, .int .i64 s.2.1.2, .slice a1 s.2.2.1.length c1, .slice a2 s.2.2.2.1.length c2, .slice a3 s.2.2.2.2.length c3] 34)).alloc (.cells #[.int .i64 0, .int .i64 0, .int .i64 0, .int .i64 0, .slice none 0 0, .slice none 0 0, .slice none 0 0] 34)) w4 := mC; have HB4 := HB _ HX4; have hz4 := More.size HX4; (try simp at hz4); have hb4 := hb4))
  all_goals
    go_wp2_with fail
    refine bodyPost_ret (v := .agg #[.int .i64 s.1.1, .int .i64 s.1.2, .int .i64 s.2.1.1, .int .i64 s.2.1.2, .slice x3a s.2.2.1.length x3c, .slice x4a s.2.2.2.1.length x4c, .slice x5a s.2.2.2.2.length x5c]) ?_ rfl ?_
    rotate_left
    · have h1 := hb3.size; have h2 := hb4.size; have h3 := hb5.size; have h7 := hz3; have h8 := hz4; have h9 := hz5
      (try simp at h1 h2 h3 h7 h8 h9)
      exact ⟨_, _, _, rfl, mC2, scene_iv O0.out O1.out (Iv.of (bs := [w.heap.size + 1]) G3.out tC (by (try simp) <;> omega)) (Iv.of (bs := [w.heap.size + 1]) G4.out tC (by (try simp) <;> omega)) (Iv.of (bs := [w.heap.size + 1]) G5.out tC (by (try simp) <;> omega)) (by (try simp) <;> omega) (by (try simp) <;> omega) (by (try simp) <;> omega) (by (try simp) <;> omega)⟩
    · simp [results, Try.results33, go_sem, *]
/-- The parts of a scene in new memory: the obstacles as a list that can be put more behind. -/
def SceneNew (B : Nat) (W : World) (u v t : Value) (s : QScene) : Prop := ∃ B1 T1 B2 T2 B3 T3, Iv tVecs B1 T1 W [u] s.2.2.1 ∧ ListOwn tVecs B2 31 W v s.2.2.2.1 ∧ Iv tVecs B3 T3 W [t] s.2.2.2.2 ∧
  (∀ g, v.ownBlock = some g → g < T2) ∧ (T1 ≤ B2 ∨ T2 ≤ B1) ∧ (T3 ≤ B2 ∨ T2 ≤ B3) ∧ B ≤ B1 ∧ B ≤ B2 ∧ B ≤ B3 ∧ B2 ≤ W.heap.size
theorem SceneNew.mk {B B1 B2 B3 : Nat} {w1 w2 w3 W : World} {bs : List Nat} {u v t : Value} {s : QScene} (h1 : tVecs.fresh B1 w1 [u] s.2.2.1) (h2 : ListOwn tVecs B2 31 w2 v s.2.2.2.1) (h3 : tVecs.fresh B3 w3 [t] s.2.2.2.2)
    (t1 : Turns bs w1 W) (t2 : Turns bs w2 W) (t3 : Turns bs w3 W) (hk : ∀ k ∈ bs, k < B1 ∧ k < B2 ∧ k < B3) (o12 : w1.heap.size ≤ B2 ∨ w2.heap.size ≤ B1) (o23 : w3.heap.size ≤ B2 ∨ w2.heap.size ≤ B3) (hB : B ≤ B1 ∧ B ≤ B2 ∧ B ≤ B3) (hW : B2 ≤ W.heap.size) : SceneNew B W u v t s := by
  refine ⟨B1, w1.heap.size, B2, w2.heap.size, B3, w3.heap.size, Iv.of h1 t1 (fun k h => (hk k h).1), ListOwn.turns h2 t2 (fun k h => (hk k h).2.1), Iv.of h3 t3 (fun k h => (hk k h).2.2), fun g hg => ?_, o12, o23, hB.1, hB.2.1, hB.2.2, hW⟩
  obtain ⟨xs, bss, q1, _⟩ := h2
  exact (ownsRow_lt q1 hg).2
set_option maxRecDepth 8000 in
set_option maxHeartbeats 12800000 in
theorem spec_l10Copy (cs : List Value) (s : QScene) (w : World) (hv : tScene.at w cs s) (hw : wScene s ≤ 1048576) :
    Calls Try.prog 28 #[.agg cs.toArray] w fun e w' => ∃ u v t, e = .returned (.agg #[.int .i64 s.1.1, .int .i64 s.1.2, .int .i64 s.2.1.1, .int .i64 s.2.1.2, u, v, t]) ∧ More w w' ∧ SceneNew w.heap.size w' u v t s := by
  obtain ⟨j0, ji, jz0, jz1, jz2⟩ := info_parts infoVec
  obtain ⟨a1, c1, a2, c2, a3, c3, rfl, o0, o1, f2, f3, f4⟩ := scene_cells hv
  have O0 := Lib.hid o0; have O1 := Lib.hid o1; have F1 := Lib.hid f2; have F2 := Lib.hid f3; have F3 := Lib.hid f4
  have L1 : Hid (s.2.2.1.length ≤ 1048576) := Lib.hid (show wVecS s.2.2.1 ≤ 1048576 by unfold wScene at hw; omega)
  have L2 : Hid (wVecSS s.2.2.2.1 ≤ 1048577) := Lib.hid (by unfold wScene at hw; omega)
  have L3 : Hid (s.2.2.2.2.length ≤ 1048576) := Lib.hid (show wVecS s.2.2.2.2 ≤ 1048576 by unfold wScene at hw; omega)
  clear hv hw o0 o1 f2 f3 f4
  show Calls Try.prog 28 #[.agg #[.int .i64 s.1.1, .int .i64 s.1.2, .int .i64 s.2.1.1, .int .i64 s.2.1.2, .slice a1 s.2.2.1.length c1, .slice a2 s.2.2.2.1.length c2, .slice a3 s.2.2.2.2.length c3]] w _
  have HC : ∀ w', Turns [w.heap.size + 1] ((w.alloc (.cells #[.int .i64 s.1.1, .int .i64 s.1.2, .int .i64 s.2.1.1, .int .i64 s.2.1.2, .slice a1 s.2.2.1.length c1, .slice a2 s.2.2.2.1.length c2, .slice a3 s.2.2.2.2.length c3] 34)).alloc (.cells #[.int .i64 0, .int .i64 0, .int .i64 0, .int .i64 0, .slice none 0 0, .slice none 0 0, .slice none 0 0] 34)) w' → w'.cell? ⟨w.heap.size, 0, none⟩ = some (.int .i64 s.1.1) ∧ w'.cell? ⟨w.heap.size, 1, none⟩ = some (.int .i64 s.1.2) ∧ w'.cell? ⟨w.heap.size, 2, none⟩ = some (.int .i64 s.2.1.1) ∧ w'.cell? ⟨w.heap.size, 3, none⟩ = some (.int .i64 s.2.1.2) ∧ w'.cell? ⟨w.heap.size, 4, none⟩ = some (.slice a1 s.2.2.1.length c1) ∧ w'.cell? ⟨w.heap.size, 5, none⟩ = some (.slice a2 s.2.2.2.1.length c2) ∧ w'.cell? ⟨w.heap.size, 6, none⟩ = some (.slice a3 s.2.2.2.2.length c3) := fun w' h => ⟨cell_heap (box_new (by simp) (More.un (More.refl _)) 0) (h.block _ (by simp <;> omega) (by simp <;> omega)), cell_heap (box_new (by simp) (More.un (More.refl _)) 1) (h.block _ (by simp <;> omega) (by simp <;> omega)), cell_heap (box_new (by simp) (More.un (More.refl _)) 2) (h.block _ (by simp <;> omega) (by simp <;> omega)), cell_heap (box_new (by simp) (More.un (More.refl _)) 3) (h.block _ (by simp <;> omega) (by simp <;> omega)), cell_heap (box_new (by simp) (More.un (More.refl _)) 4) (h.block _ (by simp <;> omega) (by simp <;> omega)), cell_heap (box_new (by simp) (More.un (More.refl _)) 5) (h.block _ (by simp <;> omega) (by simp <;> omega)), cell_heap (box_new (by simp) (More.un (More.refl _)) 6) (h.block _ (by simp <;> omega) (by simp <;> omega))⟩
  have HX : More ((w.alloc (.cells #[.int .i64 s.1.1, .int .i64 s.1.2, .int .i64 s.2.1.1, .int .i64 s.2.1.2, .slice a1 s.2.2.1.length c1, .slice a2 s.2.2.2.1.length c2, .slice a3 s.2.2.2.2.length c3] 34)).alloc (.cells #[.int .i64 0, .int .i64 0, .int .i64 0, .int .i64 0, .slice none 0 0, .slice none 0 0, .slice none 0 0] 34)) ((w.alloc (.cells #[.int .i64 s.1.1, .int .i64 s.1.2, .int .i64 s.2.1.1, .int .i64 s.2.1.2, .slice a1 s.2.2.1.length c1, .slice a2 s.2.2.2.1.length c2, .slice a3 s.2.2.2.2.length c3] 34)).alloc (.cells #[.int .i64 0, .int .i64 0, .int .i64 0, .int .i64 0, .slice none 0 0, .slice none 0 0, .slice none 0 0] 34)) := More.refl _
  have HB : ∀ w', More ((w.alloc (.cells #[.int .i64 s.1.1, .int .i64 s.1.2, .int .i64 s.2.1.1, .int .i64 s.2.1.2, .slice a1 s.2.2.1.length c1, .slice a2 s.2.2.2.1.length c2, .slice a3 s.2.2.2.2.length c3] 34)).alloc (.cells #[.int .i64 0, .int .i64 0, .int .i64 0, .int .i64 0, .slice none 0 0, .slice none 0 0, .slice none 0 0] 34)) w' → w'.cell? ⟨w.heap.size, 0, none⟩ = some (.int .i64 s.1.1) ∧ w'.cell? ⟨w.heap.size, 1, none⟩ = some (.int .i64 s.1.2) ∧ w'.cell? ⟨w.heap.size, 2, none⟩ = some (.int .i64 s.2.1.1) ∧ w'.cell? ⟨w.heap.size, 3, none⟩ = some (.int .i64 s.2.1.2) ∧ w'.cell? ⟨w.heap.size, 4, none⟩ = some (.slice a1 s.2.2.1.length c1) ∧ w'.cell? ⟨w.heap.size, 5, none⟩ = some (.slice a2 s.2.2.2.1.length c2) ∧ w'.cell? ⟨w.heap.size, 6, none⟩ = some (.slice a3 s.2.2.2.2.length c3) ∧ (∀ j, w'.frozen? ⟨w.heap.size, j, none⟩ = false) ∧ w'.cell? ⟨w.heap.size + 1, 0, none⟩ = some (.int .i64 0) ∧ w'.cell? ⟨w.heap.size + 1, 1, none⟩ = some (.int .i64 0) ∧ w'.cell? ⟨w.heap.size + 1, 2, none⟩ = some (.int .i64 0) ∧ w'.cell? ⟨w.heap.size + 1, 3, none⟩ = some (.int .i64 0) ∧ w'.cell? ⟨w.heap.size + 1, 4, none⟩ = some (.slice none 0 0) ∧ w'.cell? ⟨w.heap.size + 1, 5, none⟩ = some (.slice none 0 0) ∧ w'.cell? ⟨w.heap.size + 1, 6, none⟩ = some (.slice none 0 0) ∧ (∀ j, w'.frozen? ⟨w.heap.size + 1, j, none⟩ = false) := fun w' h => ⟨box_new (by simp) (More.un h) 0, box_new (by simp) (More.un h) 1, box_new (by simp) (More.un h) 2, box_new (by simp) (More.un h) 3, box_new (by simp) (More.un h) 4, box_new (by simp) (More.un h) 5, box_new (by simp) (More.un h) 6, fun j => box_free (by simp) (More.un h) j, box_new (by simp) h 0, box_new (by simp) h 1, box_new (by simp) h 2, box_new (by simp) h 3, box_new (by simp) h 4, box_new (by simp) h 5, box_new (by simp) h 6, fun j => box_free (by simp) h j⟩
  go_enter Try.func28, Try.ntmps28
  go_wp2_with fail
  go_region_held3 (fun w' => Turns [w.heap.size + 1] ((w.alloc (.cells #[.int .i64 s.1.1, .int .i64 s.1.2, .int .i64 s.2.1.1, .int .i64 s.2.1.2, .slice a1 s.2.2.1.length c1, .slice a2 s.2.2.2.1.length c2, .slice a3 s.2.2.2.2.length c3] 34)).alloc (.cells #[.int .i64 0, .int .i64 0, .int .i64 0, .int .i64 0, .slice none 0 0, .slice none 0 0, .slice none 0 0] 34)) w') (first | exact tC | exact mC2) (first | (refine step_copyAll fVec rfl _ _ 31 rfl 30 j0 (.agg #[.int .i64 0, .int .i64 0]) 16 Try.underlying31 ji jz0 jz1 jz2 rfl (by decide) rfl (u := (.slice a1 s.2.2.1.length c1)) rfl (Ty.at_more F1.out mC) (Lib.hid (by have := L1.out; omega)) (by decide) ?_; intro v3 w3 f3 hb3; obtain ⟨x3a, x3c, rfl⟩ := sl_len (Ty.fresh_at f3); have G3 := Lib.hid f3; clear f3; have HX3 : More ((w.alloc (.cells #[.int .i64 s.1.1, .int .i64 s.1.2, .int .i64 s.2.1.1, .int .i64 s.2.1.2, .slice a1 s.2.2.1.length c1, .slice a2 s.2.2.2.1.length c2, .slice a3 s.2.2.2.2.length c3] 34)).alloc (.cells #[.int .i64 0, .int .i64 0, .int .i64 0, .int .i64 0, .slice none 0 0, .slice none 0 0, .slice none 0 0] 34)) w3 := mC; have HB3 := HB _ HX3; have hz3 := More.size HX3; (try simp at hz3); have hb3 := hb3) | (refine step_copyAll fVec rfl _ _ 31 rfl 30 j0 (.agg #[.int .i64 0, .int .i64 0]) 16 Try.underlying31 ji jz0 jz1 jz2 rfl (by decide) rfl (u := (.slice a3 s.2.2.2.2.length c3)) rfl (Ty.at_more F3.out mC) (Lib.hid (by have := L3.out; omega)) (by decide) ?_; intro v5 w5 f5 hb5; obtain ⟨x5a, x5c, rfl⟩ := sl_len (Ty.fresh_at f5); have G5 := Lib.hid f5; clear f5; have HX5 : More ((w.alloc (.cells #[.int .i64 s.1.1, .int .i64 s.1.2, .int .i64 s.2.1.1, .int .i64 s.2.1.2, .slice a1 s.2.2.1.length c1, .slice a2 s.2.2.2.1.length c2, .slice a3 s.2.2.2.2.length c3] 34)).alloc (.cells #[.int .i64 0, .int .i64 0, .int .i64 0, .int .i64 0, .slice none 0 0, .slice none 0 0, .slice none 0 0] 34)) w5 := mC; have HB5 := HB _ HX5; have hz5 := More.size HX5; (try simp at hz5); have hb5 := hb5) | (go_at_call 55; (with_reducible refine (spec_l10Lists (.slice a2 s.2.2.2.1.length c2) s.2.2.2.1 _ (Ty.at_more F2.out mC) L2.out).mono ?_); rintro e w4 ⟨v4, rfl, hb4, h4⟩; obtain ⟨x4a, x4c, rfl⟩ := sl_len (Ty.fresh_at (ListOwn.fresh h4)); have G4 := Lib.hid h4; clear h4; have HX4 : More ((w.alloc (.cells #[.int .i64 s.1.1, .int .i64 s.1.2, .int .i64 s.2.1.1, .int .i64 s.2.1.2, .slice a1 s.2.2.1.length c1, .slice a2 s.2.2.2.1.length c2, .slice a3 s.2.2.2.2.length c3] 34)).alloc (.cells #[.int .i64 0, .int .i64 0, .int .i64 0, .int .i64 0, .slice none 0 0, .slice none 0 0, .slice none 0 0] 34)) w4 := mC; have HB4 := HB _ HX4; have hz4 := More.size HX4; (try simp at hz4); have hb4 := hb4))
  all_goals
    go_wp2_with fail
    refine bodyPost_ret (v := .agg #[.int .i64 s.1.1, .int .i64 s.1.2, .int .i64 s.2.1.1, .int .i64 s.2.1.2, .slice x3a s.2.2.1.length x3c, .slice x4a s.2.2.2.1.length x4c, .slice x5a s.2.2.2.2.length x5c]) ?_ rfl ?_
    rotate_left
    · have h1 := hb3.size; have h2 := hb4.size; have h3 := hb5.size; have h7 := hz3; have h8 := hz4; have h9 := hz5
      (try simp at h1 h2 h3 h7 h8 h9)
      exact ⟨_, _, _, rfl, mC2, SceneNew.mk (bs := [w.heap.size + 1]) G3.out G4.out G5.out tC tC tC (by (try simp) <;> omega) (by (try simp) <;> omega) (by (try simp) <;> omega) (by (try simp) <;> omega) (by (try simp) <;> omega)⟩
    · simp [results, Try.results28, go_sem, *]
end Go.Proofs.Ytnndjbomfcacfaa
