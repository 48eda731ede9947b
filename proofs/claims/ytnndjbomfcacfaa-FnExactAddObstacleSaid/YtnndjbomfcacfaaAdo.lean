/- An obstacle put to a scene: the program's and the reference's. -/
import Derived.Test.YtnndjbomfcacfaaOws
import Derived.Test.YtnndjbomfcacfaaGCut
import Derived.Deep.RegionLaw
namespace Go.Proofs.Ytnndjbomfcacfaa
open Go.RowKit
def turnS (s : QScene) (obs : List (List QV)) : QScene := (s.1, s.2.1, s.2.2.1, obs, s.2.2.2.2)
theorem scene_swap {B B2 : Nat} {w1 w2 W : World} {bs bs2 : List Nat} {u v t v2 : Value} {s : QScene} {obs : List (List QV)} (f0 : fVec.ok s.1) (f1' : fVec.ok s.2.1) (f1 : tScene.fresh B w1 [.int .i64 s.1.1, .int .i64 s.1.2, .int .i64 s.2.1.1, .int .i64 s.2.1.2, u, v, t] s) (t1 : Turns bs w1 W) (hk : ∀ k ∈ bs, k < B ∨ w1.heap.size ≤ k)
    (f2 : tVecSS.fresh B2 w2 [v2] obs) (t2 : Turns bs2 w2 W) (hk2 : ∀ k ∈ bs2, k < B2) (hB : w1.heap.size ≤ B2 ∧ B ≤ B2) :
    tScene.fresh B W [.int .i64 s.1.1, .int .i64 s.1.2, .int .i64 s.2.1.1, .int .i64 s.2.1.2, u, v2, t] (turnS s obs) := by
  obtain ⟨bs0, hv, hnd, hlo⟩ := f1
  obtain ⟨b0, d0, c0, e0, rfl, e9, g0, g1⟩ := hv
  obtain ⟨b1, d1, c1, e1, rfl, rfl, g2, g3⟩ := g1
  obtain ⟨b2, d2, c2, e2, rfl, rfl, g4, g5⟩ := g3
  obtain ⟨b3, d3, c3, e3, rfl, rfl, g6, g7⟩ := g5
  obtain ⟨rfl, rfl, _⟩ := (fVec.own_iff _ _ _ _).1 g0
  obtain ⟨rfl, rfl, _⟩ := (fVec.own_iff _ _ _ _).1 g2
  obtain ⟨z2a, z2n, z2c, rfl⟩ := sh_slice (Ty.rd_at ((tSlice _).own_rd g4))
  obtain ⟨z3a, z3n, z3c, rfl⟩ := sh_slice (Ty.rd_at ((tSlice _).own_rd g6))
  obtain ⟨z4a, z4n, z4c, rfl⟩ := sh_slice (Ty.rd_at ((tSlice _).own_rd g7))
  simp [fVec, fProd, fInt] at e9
  obtain ⟨rfl, rfl, rfl⟩ := e9
  have hnb : (b2 ++ (b3 ++ d3)).Nodup := by simpa [List.append_assoc] using hnd
  have hlo' : ∀ b ∈ b2 ++ (b3 ++ d3), B ≤ b := by simpa [List.append_assoc] using hlo
  simp only [List.nodup_append, List.mem_append] at hnb hlo'
  obtain ⟨n0, ⟨n1, n2, dj1⟩, dj0⟩ := hnb
  obtain ⟨q0, q1, q2, q3⟩ := Iv.of f2 t2 hk2
  have k2 : tVecs.own b2 W _ s.2.2.1 := Ty.own_turns g4 t1 (fun k h h2 => by have := hk k h2; have := hlo' k (.inl h); have := tVecs.own_lt g4 k h; omega)
  have k4 : tVecs.own d3 W _ s.2.2.2.2 := Ty.own_turns g7 t1 (fun k h h2 => by have := hk k h2; have := hlo' k (.inr (.inr h)); have := tVecs.own_lt g7 k h; omega)
  refine Ty.fresh_flat fVec (c1 := [.int .i64 s.1.1, .int .i64 s.1.2]) (x := s.1) rfl f0 (Ty.fresh_flat fVec (c1 := [.int .i64 s.2.1.1, .int .i64 s.2.1.2]) (x := s.2.1) rfl f1' ?_)
  refine ⟨b2 ++ (q0 ++ d3), ⟨b2, q0 ++ d3, [_], [v2, _], rfl, rfl, k2, ⟨q0, d3, [v2], [_], rfl, rfl, q1, k4⟩⟩, ?_, ?_⟩
  · simp only [List.nodup_append, List.mem_append]
    refine ⟨n0, ⟨q2, n2, fun a ha b hb e => ?_⟩, fun a ha b hb e => ?_⟩
    · subst e
      have := q3 a ha; have := tVecs.own_lt g7 a hb
      omega
    · subst e
      rcases hb with hb | hb
      · have := q3 a hb; have := tVecs.own_lt g4 a ha; omega
      · exact dj0 a ha a (.inr hb) rfl
  · intro b hb
    simp only [List.mem_append] at hb
    rcases hb with hb | hb | hb
    · exact hlo' b (.inl hb)
    · have := q3 b hb; omega
    · exact hlo' b (.inr (.inr hb))
/-- A box of a scene whose obstacles are stored anew. -/
structure Box7 (w : World) (N : Nat) (c0 c1 c2 c3 c4 c5 c6 : Value) : Prop where
  k0 : w.cell? ⟨N, 0, none⟩ = some c0
  k1 : w.cell? ⟨N, 1, none⟩ = some c1
  k2 : w.cell? ⟨N, 2, none⟩ = some c2
  k3 : w.cell? ⟨N, 3, none⟩ = some c3
  k4 : w.cell? ⟨N, 4, none⟩ = some c4
  k5 : w.cell? ⟨N, 5, none⟩ = some c5
  k6 : w.cell? ⟨N, 6, none⟩ = some c6
  fr : ∀ j, w.frozen? ⟨N, j, none⟩ = false
  lt : N < w.heap.size
theorem Box7.new {X w : World} {c0 c1 c2 c3 c4 c5 c6 : Value} {t : TypeId} {N : Nat} (hN : X.heap.size = N) (h : More (X.alloc (.cells #[c0, c1, c2, c3, c4, c5, c6] t)) w) : Box7 w N c0 c1 c2 c3 c4 c5 c6 :=
  ⟨box_new hN h 0, box_new hN h 1, box_new hN h 2, box_new hN h 3, box_new hN h 4, box_new hN h 5, box_new hN h 6, fun j => box_free hN h j, alloc_lt hN h⟩
theorem Box7.keep {w w' : World} {N : Nat} {c0 c1 c2 c3 c4 c5 c6 : Value} (h : Box7 w N c0 c1 c2 c3 c4 c5 c6) (hm : More w w') : Box7 w' N c0 c1 c2 c3 c4 c5 c6 :=
  ⟨box_keep hm h.lt h.k0, box_keep hm h.lt h.k1, box_keep hm h.lt h.k2, box_keep hm h.lt h.k3, box_keep hm h.lt h.k4, box_keep hm h.lt h.k5, box_keep hm h.lt h.k6, fun j => free_keep hm h.lt (h.fr j), Nat.lt_of_lt_of_le h.lt hm.size⟩
theorem Box7.turn {w w' : World} {N : Nat} {bs : List Nat} {c0 c1 c2 c3 c4 c5 c6 : Value} (h : Box7 w N c0 c1 c2 c3 c4 c5 c6) (ht : Turns bs w w') (hn : N ∉ bs) : Box7 w' N c0 c1 c2 c3 c4 c5 c6 :=
  ⟨turn_cell ht h.lt hn h.k0, turn_cell ht h.lt hn h.k1, turn_cell ht h.lt hn h.k2, turn_cell ht h.lt hn h.k3, turn_cell ht h.lt hn h.k4, turn_cell ht h.lt hn h.k5, turn_cell ht h.lt hn h.k6, fun j => (World.frozen?_of_block (ht.block N h.lt hn)).trans (h.fr j), Nat.lt_of_lt_of_le h.lt ht.size⟩
theorem Box7.set5 {w : World} {N : Nat} {c0 c1 c2 c3 c4 c5 c6 z : Value} (h : Box7 w N c0 c1 c2 c3 c4 c5 c6) : Box7 (w.setCell ⟨N, 5, none⟩ z) N c0 c1 c2 c3 c4 z c6 :=
  ⟨(World.cell?_setCell_other _ _ _ _ (by simp)).trans h.k0, (World.cell?_setCell_other _ _ _ _ (by simp)).trans h.k1, (World.cell?_setCell_other _ _ _ _ (by simp)).trans h.k2, (World.cell?_setCell_other _ _ _ _ (by simp)).trans h.k3, (World.cell?_setCell_other _ _ _ _ (by simp)).trans h.k4,
    World.cell?_setCell_same _ _ _ h.k5, (World.cell?_setCell_other _ _ _ _ (by simp)).trans h.k6, fun j => by rw [World.frozen?_setCell]; exact h.fr j, by simpa using h.lt⟩
set_option maxRecDepth 8000 in
set_option maxHeartbeats 12800000 in
theorem impl_turned (cs : List Value) (s : QScene) (v : Value) (obs : List (List QV)) (w : World) (hv : tScene.at w cs s) (hw : wScene s ≤ 1048576) (ho : tVecSS.at w [v] obs) (hwo : wVecSS obs ≤ 1048577) :
    Calls Try.prog 34 #[.agg cs.toArray, v] w fun e w' => ∃ u v t, e = .returned (.tuple #[.agg #[.int .i64 s.1.1, .int .i64 s.1.2, .int .i64 s.2.1.1, .int .i64 s.2.1.2, u, v, t], .bool (sceneOk (turnS s obs))]) ∧ More w w' ∧
      tScene.fresh w.heap.size w' [.int .i64 s.1.1, .int .i64 s.1.2, .int .i64 s.2.1.1, .int .i64 s.2.1.2, u, v, t] (if sceneOk (turnS s obs) then turnS s obs else s) := by
  obtain ⟨a1, c1, a2, c2, a3, c3, rfl, o0, o1, f2, f3, f4⟩ := scene_cells hv
  obtain ⟨oa, oc, rfl⟩ := sl_len ho
  have HV := Lib.hid hv; have HW := Lib.hid hw; have HO := Lib.hid ho; have HWO := Lib.hid hwo; have O0 := Lib.hid o0; have O1 := Lib.hid o1
  clear hv hw ho hwo o0 o1 f2 f3 f4
  show Calls Try.prog 34 #[.agg #[.int .i64 s.1.1, .int .i64 s.1.2, .int .i64 s.2.1.1, .int .i64 s.2.1.2, .slice a1 s.2.2.1.length c1, .slice a2 s.2.2.2.1.length c2, .slice a3 s.2.2.2.2.length c3], .slice oa obs.length oc] w _
  obtain ⟨ok, hok⟩ : ∃ ok, sceneOk (turnS s obs) = ok := ⟨_, rfl⟩
  rw [hok]
  have HK := Lib.hid hok; clear hok
  have HC : ∀ w', Turns [w.heap.size + 1] ((w.alloc (.cells #[.int .i64 s.1.1, .int .i64 s.1.2, .int .i64 s.2.1.1, .int .i64 s.2.1.2, .slice a1 s.2.2.1.length c1, .slice a2 s.2.2.2.1.length c2, .slice a3 s.2.2.2.2.length c3] 34)).alloc (.cells #[.int .i64 0, .int .i64 0, .int .i64 0, .int .i64 0, .slice none 0 0, .slice none 0 0, .slice none 0 0] 34)) w' → w'.cell? ⟨w.heap.size, 0, none⟩ = some (.int .i64 s.1.1) ∧ w'.cell? ⟨w.heap.size, 1, none⟩ = some (.int .i64 s.1.2) ∧ w'.cell? ⟨w.heap.size, 2, none⟩ = some (.int .i64 s.2.1.1) ∧ w'.cell? ⟨w.heap.size, 3, none⟩ = some (.int .i64 s.2.1.2) ∧ w'.cell? ⟨w.heap.size, 4, none⟩ = some (.slice a1 s.2.2.1.length c1) ∧ w'.cell? ⟨w.heap.size, 5, none⟩ = some (.slice a2 s.2.2.2.1.length c2) ∧ w'.cell? ⟨w.heap.size, 6, none⟩ = some (.slice a3 s.2.2.2.2.length c3) := fun w' h => ⟨cell_heap (box_new (by simp) (More.un (More.refl _)) 0) (h.block _ (by simp <;> omega) (by simp <;> omega)), cell_heap (box_new (by simp) (More.un (More.refl _)) 1) (h.block _ (by simp <;> omega) (by simp <;> omega)), cell_heap (box_new (by simp) (More.un (More.refl _)) 2) (h.block _ (by simp <;> omega) (by simp <;> omega)), cell_heap (box_new (by simp) (More.un (More.refl _)) 3) (h.block _ (by simp <;> omega) (by simp <;> omega)), cell_heap (box_new (by simp) (More.un (More.refl _)) 4) (h.block _ (by simp <;> omega) (by simp <;> omega)), cell_heap (box_new (by simp) (More.un (More.refl _)) 5) (h.block _ (by simp <;> omega) (by simp <;> omega)), cell_heap (box_new (by simp) (More.un (More.refl _)) 6) (h.block _ (by simp <;> omega) (by simp <;> omega))⟩
  have HX : More ((w.alloc (.cells #[.int .i64 s.1.1, .int .i64 s.1.2, .int .i64 s.2.1.1, .int .i64 s.2.1.2, .slice a1 s.2.2.1.length c1, .slice a2 s.2.2.2.1.length c2, .slice a3 s.2.2.2.2.length c3] 34)).alloc (.cells #[.int .i64 0, .int .i64 0, .int .i64 0, .int .i64 0, .slice none 0 0, .slice none 0 0, .slice none 0 0] 34)) ((w.alloc (.cells #[.int .i64 s.1.1, .int .i64 s.1.2, .int .i64 s.2.1.1, .int .i64 s.2.1.2, .slice a1 s.2.2.1.length c1, .slice a2 s.2.2.2.1.length c2, .slice a3 s.2.2.2.2.length c3] 34)).alloc (.cells #[.int .i64 0, .int .i64 0, .int .i64 0, .int .i64 0, .slice none 0 0, .slice none 0 0, .slice none 0 0] 34)) := More.refl _
  have HB : ∀ w', More ((w.alloc (.cells #[.int .i64 s.1.1, .int .i64 s.1.2, .int .i64 s.2.1.1, .int .i64 s.2.1.2, .slice a1 s.2.2.1.length c1, .slice a2 s.2.2.2.1.length c2, .slice a3 s.2.2.2.2.length c3] 34)).alloc (.cells #[.int .i64 0, .int .i64 0, .int .i64 0, .int .i64 0, .slice none 0 0, .slice none 0 0, .slice none 0 0] 34)) w' → w'.cell? ⟨w.heap.size, 0, none⟩ = some (.int .i64 s.1.1) ∧ w'.cell? ⟨w.heap.size, 1, none⟩ = some (.int .i64 s.1.2) ∧ w'.cell? ⟨w.heap.size, 2, none⟩ = some (.int .i64 s.2.1.1) ∧ w'.cell? ⟨w.heap.size, 3, none⟩ = some (.int .i64 s.2.1.2) ∧ w'.cell? ⟨w.heap.size, 4, none⟩ = some (.slice a1 s.2.2.1.length c1) ∧ w'.cell? ⟨w.heap.size, 5, none⟩ = some (.slice a2 s.2.2.2.1.length c2) ∧ w'.cell? ⟨w.heap.size, 6, none⟩ = some (.slice a3 s.2.2.2.2.length c3) ∧ (∀ j, w'.frozen? ⟨w.heap.size, j, none⟩ = false) ∧ w'.cell? ⟨w.heap.size + 1, 0, none⟩ = some (.int .i64 0) ∧ w'.cell? ⟨w.heap.size + 1, 1, none⟩ = some (.int .i64 0) ∧ w'.cell? ⟨w.heap.size + 1, 2, none⟩ = some (.int .i64 0) ∧ w'.cell? ⟨w.heap.size + 1, 3, none⟩ = some (.int .i64 0) ∧ w'.cell? ⟨w.heap.size + 1, 4, none⟩ = some (.slice none 0 0) ∧ w'.cell? ⟨w.heap.size + 1, 5, none⟩ = some (.slice none 0 0) ∧ w'.cell? ⟨w.heap.size + 1, 6, none⟩ = some (.slice none 0 0) ∧ (∀ j, w'.frozen? ⟨w.heap.size + 1, j, none⟩ = false) := fun w' h => ⟨box_new (by simp) (More.un h) 0, box_new (by simp) (More.un h) 1, box_new (by simp) (More.un h) 2, box_new (by simp) (More.un h) 3, box_new (by simp) (More.un h) 4, box_new (by simp) (More.un h) 5, box_new (by simp) (More.un h) 6, fun j => box_free (by simp) (More.un h) j, box_new (by simp) h 0, box_new (by simp) h 1, box_new (by simp) h 2, box_new (by simp) h 3, box_new (by simp) h 4, box_new (by simp) h 5, box_new (by simp) h 6, fun j => box_free (by simp) h j⟩
  go_enter Try.func34, Try.ntmps34
  go_wp2_with fail
  refine (impl_ownScene _ s _ (Ty.at_more HV.out mC) HW.out).mono ?_
  rintro e w1 ⟨u1, v1, t1, rfl, hb1, f1⟩
  obtain ⟨xa1, xc1, xa2, xc2, xa3, xc3, e9, -⟩ := scene_cells (Ty.fresh_at f1)
  simp only [List.cons.injEq, and_true, true_and] at e9
  obtain ⟨rfl, rfl, rfl⟩ := e9
  have F1 := Lib.hid f1; clear f1
  have HX1 : More ((w.alloc (.cells #[.int .i64 s.1.1, .int .i64 s.1.2, .int .i64 s.2.1.1, .int .i64 s.2.1.2, .slice a1 s.2.2.1.length c1, .slice a2 s.2.2.2.1.length c2, .slice a3 s.2.2.2.2.length c3] 34)).alloc (.cells #[.int .i64 0, .int .i64 0, .int .i64 0, .int .i64 0, .slice none 0 0, .slice none 0 0, .slice none 0 0] 34)) w1 := mC; have HB1 := HB _ HX1; have hz1 := More.size HX1; (try simp at hz1); have hb1 := hb1
  go_wp2_with fail
  refine (impl_ownAreas _ obs _ (Ty.at_more HO.out mC) HWO.out).mono ?_
  rintro e w2 ⟨v2, rfl, hb2, h2⟩
  have f2 := ListOwn.fresh h2; clear h2
  obtain ⟨x2a, x2c, rfl⟩ := sl_len (Ty.fresh_at f2)
  have F2 := Lib.hid f2; clear f2
  have hn1 : Box7 w2 w1.heap.size _ _ _ _ _ _ _ := Box7.new rfl hb2
  have hn2 := hn1.k0; have hn3 := hn1.k1; have hn4 := hn1.k2; have hn5 := hn1.k3; have hn6 := hn1.k4; have hn7 := hn1.k5; have hn8 := hn1.k6; have hn9 := hn1.fr
  have HX2 : More ((w.alloc (.cells #[.int .i64 s.1.1, .int .i64 s.1.2, .int .i64 s.2.1.1, .int .i64 s.2.1.2, .slice a1 s.2.2.1.length c1, .slice a2 s.2.2.2.1.length c2, .slice a3 s.2.2.2.2.length c3] 34)).alloc (.cells #[.int .i64 0, .int .i64 0, .int .i64 0, .int .i64 0, .slice none 0 0, .slice none 0 0, .slice none 0 0] 34)) w2 := mC; have HB2 := HB _ HX2; have hz2 := More.size HX2; (try simp at hz2); have hb2 := hb2
  have KEY : Hid (∀ W', Turns [w.heap.size + 1, w1.heap.size] w1 W' → Turns [w.heap.size + 1, w1.heap.size] w2 W' → tScene.fresh w.heap.size W' [.int .i64 s.1.1, .int .i64 s.1.2, .int .i64 s.2.1.1, .int .i64 s.2.1.2, .slice xa1 s.2.2.1.length xc1, .slice x2a obs.length x2c, .slice xa3 s.2.2.2.2.length xc3] (turnS s obs)) := Lib.hid (fun W' t1 t2 =>
    Ty.fresh_mono (scene_swap O0.out O1.out F1.out t1 (by simp) F2.out t2 (by have := hz1; simp at this ⊢; omega) (by have := hz1; simp at this ⊢; omega)) (by simp <;> omega))
  go_wp2_with fail
  refine (impl_IsValidSceneG _ (turnS s obs) _ (Ty.fresh_at (KEY.out _ tC tC)) (by have h := HW.out; unfold wScene at h; show wVecS s.2.2.1 ≤ 1048576; omega) HWO.out (by have h := HW.out; unfold wScene at h; show wVecS s.2.2.2.2 ≤ 1048576; omega)).mono ?_
  rintro e w3 ⟨rfl, hb3⟩
  rw [HK.out]
  have HX3 : More ((w.alloc (.cells #[.int .i64 s.1.1, .int .i64 s.1.2, .int .i64 s.2.1.1, .int .i64 s.2.1.2, .slice a1 s.2.2.1.length c1, .slice a2 s.2.2.2.1.length c2, .slice a3 s.2.2.2.2.length c3] 34)).alloc (.cells #[.int .i64 0, .int .i64 0, .int .i64 0, .int .i64 0, .slice none 0 0, .slice none 0 0, .slice none 0 0] 34)) w3 := mC2
  have HB3 := HB _ HX3; have hz3 := More.size HX3; (try simp at hz3); have hb3 := hb3
  have hm1 := (hn1.set5 (z := .slice x2a obs.length x2c)).keep hb3
  have hm2 := hm1.k0; have hm3 := hm1.k1; have hm4 := hm1.k2; have hm5 := hm1.k3; have hm6 := hm1.k4; have hm7 := hm1.k5; have hm8 := hm1.k6
  cases ok with
  | true =>
    go_wp2_with fail
    refine bodyPost_ret (v := .tuple #[.agg #[.int .i64 s.1.1, .int .i64 s.1.2, .int .i64 s.2.1.1, .int .i64 s.2.1.2, .slice xa1 s.2.2.1.length xc1, .slice x2a obs.length x2c, .slice xa3 s.2.2.2.2.length xc3], .bool true]) ?_ rfl ?_
    · simp [results, Try.results34, go_sem, *]
    · refine ⟨_, _, _, rfl, mC2, ?_⟩
      have h7 : w1.heap.size < w3.heap.size := hm1.lt
      refine KEY.out _ ?_ ?_
      · exact tC
      · exact tC
  | false =>
    go_wp2_with fail
    refine (impl_ownScene _ s _ (Ty.at_more HV.out (More.trans (show More w ((w.alloc (.cells #[.int .i64 s.1.1, .int .i64 s.1.2, .int .i64 s.2.1.1, .int .i64 s.2.1.2, .slice a1 s.2.2.1.length c1, .slice a2 s.2.2.2.1.length c2, .slice a3 s.2.2.2.2.length c3] 34)).alloc (.cells #[.int .i64 0, .int .i64 0, .int .i64 0, .int .i64 0, .slice none 0 0, .slice none 0 0, .slice none 0 0] 34)) from mC) (More.trans HX3 mC))) HW.out).mono ?_
    rintro e w4 ⟨u4, v4, t4, rfl, hb4, f4⟩
    obtain ⟨ya1, yc1, ya2, yc2, ya3, yc3, e9, -⟩ := scene_cells (Ty.fresh_at f4)
    simp only [List.cons.injEq, and_true, true_and] at e9
    obtain ⟨rfl, rfl, rfl⟩ := e9
    have F4 := Lib.hid f4; clear f4
    have HX4 : More ((w.alloc (.cells #[.int .i64 s.1.1, .int .i64 s.1.2, .int .i64 s.2.1.1, .int .i64 s.2.1.2, .slice a1 s.2.2.1.length c1, .slice a2 s.2.2.2.1.length c2, .slice a3 s.2.2.2.2.length c3] 34)).alloc (.cells #[.int .i64 0, .int .i64 0, .int .i64 0, .int .i64 0, .slice none 0 0, .slice none 0 0, .slice none 0 0] 34)) w4 := More.trans HX3 mC
    have HB4 := HB _ HX4; have hz4 := More.size HX4; (try simp at hz4); have hb4 := hb4
    go_wp2_with fail
    refine bodyPost_ret (v := .tuple #[.agg #[.int .i64 s.1.1, .int .i64 s.1.2, .int .i64 s.2.1.1, .int .i64 s.2.1.2, .slice ya1 s.2.2.1.length yc1, .slice ya2 s.2.2.2.1.length yc2, .slice ya3 s.2.2.2.2.length yc3], .bool false]) ?_ rfl ?_
    · simp [results, Try.results34, go_sem, *]
    · exact ⟨_, _, _, rfl, mC2, by exact Ty.fresh_mono (Ty.fresh_turns (bs := [w.heap.size + 1]) F4.out tC (by simp <;> omega)) (by omega)⟩
theorem scene_sh {w : World} {i0 i1 i2 i3 u v t : Value} {s : QScene} (h : tScene.at w [i0, i1, i2, i3, u, v, t] s) : ∃ (a1 : Option Addr) (n1 c1 : Nat) (a2 : Option Addr) (n2 c2 : Nat) (a3 : Option Addr) (n3 c3 : Nat), u = .slice a1 n1 c1 ∧ v = .slice a2 n2 c2 ∧ t = .slice a3 n3 c3 := by
  obtain ⟨a1, c1, a2, c2, a3, c3, e9, -⟩ := scene_cells h
  simp only [List.cons.injEq, and_true] at e9
  obtain ⟨_, _, _, _, rfl, rfl, rfl⟩ := e9
  exact ⟨_, _, _, _, _, _, _, _, _, rfl, rfl, rfl⟩
def addS (s : QScene) (l : List QV) : QScene := turnS s (s.2.2.2.1 ++ [l])
noncomputable def addB (s : QScene) (l : List QV) : Bool := sceneOk s && sceneOk (addS s l)
noncomputable def addF (s : QScene) (l : List QV) : QScene := if addB s l then addS s l else s
theorem w_add (s : List (List QV)) (l : List QV) : wVecSS (s ++ [l]) = wVecSS s + 1 + l.length := by
  unfold wVecSS wsum wVecS
  simp
  omega
theorem clip_vecss (ao : Option Addr) (n cap : Nat) (l : List (List QV)) (w : World) (hv : tVecSS.at w [.slice ao n cap] l) :
    Calls Try.prog 35 #[.slice ao n cap] w fun e w' => ∃ ao', e = .returned (.slice ao' n n) ∧ More w w' ∧ tVecSS.at w' [.slice ao' n n] l := by
  obtain ⟨ao', cap', e0, k1, k2, k3, k4⟩ := slRd_at hv
  simp at e0
  obtain ⟨rfl, rfl, rfl⟩ := e0
  have HV := Lib.hid hv
  have H4 := Lib.hid k4; clear k4 hv
  cases ao with
  | none =>
    obtain rfl : cap = 0 := k3 rfl
    have hl0 : l = [] := List.eq_nil_of_length_eq_zero (by omega)
    subst hl0
    go_enter Try.func35, Try.ntmps35
    go_wp2_with fail
    go_ret
    exact ⟨_, rfl, mC, ⟨none, 0, rfl, Nat.le_refl _, by decide, fun _ => rfl, fun h9 => by simp at h9⟩⟩
  | some b =>
    clear k3
    have hi0 : (l.length : Int) ≤ (cap : Int) := by omega
    go_enter Try.func35, Try.ntmps35
    go_wp2_with fail
    go_ret
    exact ⟨_, rfl, mC, ⟨some b, l.length, rfl, Nat.le_refl _, by omega, (fun e => by cases e), H4.out⟩⟩
theorem infoVecS8 : (Try.prog.info? 31).map (fun i => (i.zero, i.size, i.bytes)) = some (some (.slice none 0 0), 1, 24) := by kernel_rfl
set_option maxRecDepth 8000 in
set_option maxHeartbeats 12800000 in
theorem impl_AddObstacle (cs : List Value) (s : QScene) (v : Value) (l : List QV) (w : World) (hv : tScene.at w cs s) (hw : wScene s + l.length ≤ 1048576) (hl : tVecs.at w [v] l) :
    Calls Try.prog 10 #[.agg cs.toArray, v] w fun e w' => ∃ u v t, e = .returned (.tuple #[.agg #[.int .i64 s.1.1, .int .i64 s.1.2, .int .i64 s.2.1.1, .int .i64 s.2.1.2, u, v, t], .bool (addB s l)]) ∧ More w w' ∧
      tScene.fresh w.heap.size w' [.int .i64 s.1.1, .int .i64 s.1.2, .int .i64 s.2.1.1, .int .i64 s.2.1.2, u, v, t] (addF s l) := by
  obtain ⟨i0, hi, iz0, iz1, iz2⟩ := info_parts infoVecS8
  obtain ⟨a1, c1, a2, c2, a3, c3, rfl, o0, o1, f2, f3, f4⟩ := scene_cells hv
  obtain ⟨oa, oc, rfl⟩ := sl_len hl
  have HV := Lib.hid hv; have HW : Hid (wScene s ≤ 1048576) := Lib.hid (by omega); have HL := Lib.hid hl; have O0 := Lib.hid o0; have O1 := Lib.hid o1; have HO := Lib.hid f3
  have HWO : Hid (wVecSS (s.2.2.2.1 ++ [l]) ≤ 1048577) := Lib.hid (by rw [w_add]; unfold wScene at hw; omega)
  have HLN : Hid (s.2.2.2.1.length ≤ 2097152) := Lib.hid (by unfold wScene wVecSS at hw; omega)
  clear hv hw hl o0 o1 f2 f3 f4
  show Calls Try.prog 10 #[.agg #[.int .i64 s.1.1, .int .i64 s.1.2, .int .i64 s.2.1.1, .int .i64 s.2.1.2, .slice a1 s.2.2.1.length c1, .slice a2 s.2.2.2.1.length c2, .slice a3 s.2.2.2.2.length c3], .slice oa l.length oc] w _
  rcases Bool.eq_false_or_eq_true (sceneOk s) with h1 | h1
  rotate_left
  · have EB : addB s l = false := by unfold addB; rw [h1]; rfl
    have EF : addF s l = s := by unfold addF; rw [EB]; rfl
    rw [EB, EF]
    have HK := Lib.hid h1; clear h1 EB EF
    have HC : ∀ w', Turns [w.heap.size + 1] ((w.alloc (.cells #[.int .i64 s.1.1, .int .i64 s.1.2, .int .i64 s.2.1.1, .int .i64 s.2.1.2, .slice a1 s.2.2.1.length c1, .slice a2 s.2.2.2.1.length c2, .slice a3 s.2.2.2.2.length c3] 34)).alloc (.cells #[.int .i64 0, .int .i64 0, .int .i64 0, .int .i64 0, .slice none 0 0, .slice none 0 0, .slice none 0 0] 34)) w' → w'.cell? ⟨w.heap.size, 0, none⟩ = some (.int .i64 s.1.1) ∧ w'.cell? ⟨w.heap.size, 1, none⟩ = some (.int .i64 s.1.2) ∧ w'.cell? ⟨w.heap.size, 2, none⟩ = some (.int .i64 s.2.1.1) ∧ w'.cell? ⟨w.heap.size, 3, none⟩ = some (.int .i64 s.2.1.2) ∧ w'.cell? ⟨w.heap.size, 4, none⟩ = some (.slice a1 s.2.2.1.length c1) ∧ w'.cell? ⟨w.heap.size, 5, none⟩ = some (.slice a2 s.2.2.2.1.length c2) ∧ w'.cell? ⟨w.heap.size, 6, none⟩ = some (.slice a3 s.2.2.2.2.length c3) := fun w' h => ⟨cell_heap (box_new (by simp) (More.un (More.refl _)) 0) (h.block _ (by simp <;> omega) (by simp <;> omega)), cell_heap (box_new (by simp) (More.un (More.refl _)) 1) (h.block _ (by simp <;> omega) (by simp <;> omega)), cell_heap (box_new (by simp) (More.un (More.refl _)) 2) (h.block _ (by simp <;> omega) (by simp <;> omega)), cell_heap (box_new (by simp) (More.un (More.refl _)) 3) (h.block _ (by simp <;> omega) (by simp <;> omega)), cell_heap (box_new (by simp) (More.un (More.refl _)) 4) (h.block _ (by simp <;> omega) (by simp <;> omega)), cell_heap (box_new (by simp) (More.un (More.refl _)) 5) (h.block _ (by simp <;> omega) (by simp <;> omega)), cell_heap (box_new (by simp) (More.un (More.refl _)) 6) (h.block _ (by simp <;> omega) (by simp <;> omega))⟩
    have HX : More ((w.alloc (.cells #[.int .i64 s.1.1, .int .i64 s.1.2, .int .i64 s.2.1.1, .int .i64 s.2.1.2, .slice a1 s.2.2.1.length c1, .slice a2 s.2.2.2.1.length c2, .slice a3 s.2.2.2.2.length c3] 34)).alloc (.cells #[.int .i64 0, .int .i64 0, .int .i64 0, .int .i64 0, .slice none 0 0, .slice none 0 0, .slice none 0 0] 34)) ((w.alloc (.cells #[.int .i64 s.1.1, .int .i64 s.1.2, .int .i64 s.2.1.1, .int .i64 s.2.1.2, .slice a1 s.2.2.1.length c1, .slice a2 s.2.2.2.1.length c2, .slice a3 s.2.2.2.2.length c3] 34)).alloc (.cells #[.int .i64 0, .int .i64 0, .int .i64 0, .int .i64 0, .slice none 0 0, .slice none 0 0, .slice none 0 0] 34)) := More.refl _
    have HB : ∀ w', More ((w.alloc (.cells #[.int .i64 s.1.1, .int .i64 s.1.2, .int .i64 s.2.1.1, .int .i64 s.2.1.2, .slice a1 s.2.2.1.length c1, .slice a2 s.2.2.2.1.length c2, .slice a3 s.2.2.2.2.length c3] 34)).alloc (.cells #[.int .i64 0, .int .i64 0, .int .i64 0, .int .i64 0, .slice none 0 0, .slice none 0 0, .slice none 0 0] 34)) w' → w'.cell? ⟨w.heap.size, 0, none⟩ = some (.int .i64 s.1.1) ∧ w'.cell? ⟨w.heap.size, 1, none⟩ = some (.int .i64 s.1.2) ∧ w'.cell? ⟨w.heap.size, 2, none⟩ = some (.int .i64 s.2.1.1) ∧ w'.cell? ⟨w.heap.size, 3, none⟩ = some (.int .i64 s.2.1.2) ∧ w'.cell? ⟨w.heap.size, 4, none⟩ = some (.slice a1 s.2.2.1.length c1) ∧ w'.cell? ⟨w.heap.size, 5, none⟩ = some (.slice a2 s.2.2.2.1.length c2) ∧ w'.cell? ⟨w.heap.size, 6, none⟩ = some (.slice a3 s.2.2.2.2.length c3) ∧ (∀ j, w'.frozen? ⟨w.heap.size, j, none⟩ = false) ∧ w'.cell? ⟨w.heap.size + 1, 0, none⟩ = some (.int .i64 0) ∧ w'.cell? ⟨w.heap.size + 1, 1, none⟩ = some (.int .i64 0) ∧ w'.cell? ⟨w.heap.size + 1, 2, none⟩ = some (.int .i64 0) ∧ w'.cell? ⟨w.heap.size + 1, 3, none⟩ = some (.int .i64 0) ∧ w'.cell? ⟨w.heap.size + 1, 4, none⟩ = some (.slice none 0 0) ∧ w'.cell? ⟨w.heap.size + 1, 5, none⟩ = some (.slice none 0 0) ∧ w'.cell? ⟨w.heap.size + 1, 6, none⟩ = some (.slice none 0 0) ∧ (∀ j, w'.frozen? ⟨w.heap.size + 1, j, none⟩ = false) := fun w' h => ⟨box_new (by simp) (More.un h) 0, box_new (by simp) (More.un h) 1, box_new (by simp) (More.un h) 2, box_new (by simp) (More.un h) 3, box_new (by simp) (More.un h) 4, box_new (by simp) (More.un h) 5, box_new (by simp) (More.un h) 6, fun j => box_free (by simp) (More.un h) j, box_new (by simp) h 0, box_new (by simp) h 1, box_new (by simp) h 2, box_new (by simp) h 3, box_new (by simp) h 4, box_new (by simp) h 5, box_new (by simp) h 6, fun j => box_free (by simp) h j⟩
    go_enter Try.func10, Try.ntmps10
    go_wp2_with fail
    refine (impl_IsValidScene _ s _ (Ty.at_more HV.out mC) HW.out).mono ?_
    rintro e w1 ⟨rfl, hb1⟩
    rw [HK.out]
    have HX1 : More ((w.alloc (.cells #[.int .i64 s.1.1, .int .i64 s.1.2, .int .i64 s.2.1.1, .int .i64 s.2.1.2, .slice a1 s.2.2.1.length c1, .slice a2 s.2.2.2.1.length c2, .slice a3 s.2.2.2.2.length c3] 34)).alloc (.cells #[.int .i64 0, .int .i64 0, .int .i64 0, .int .i64 0, .slice none 0 0, .slice none 0 0, .slice none 0 0] 34)) w1 := mC; have HB1 := HB _ HX1; have hz1 := More.size HX1; (try simp at hz1); have hb1 := hb1
    go_wp2_with fail
    refine (impl_ownScene _ s _ (Ty.at_more HV.out mC) HW.out).mono ?_
    rintro e w4 ⟨u4, v4, t4, rfl, hb4, f4⟩
    obtain ⟨ya1, yc1, ya2, yc2, ya3, yc3, e9, -⟩ := scene_cells (Ty.fresh_at f4)
    simp only [List.cons.injEq, and_true, true_and] at e9
    obtain ⟨rfl, rfl, rfl⟩ := e9
    have F4 := Lib.hid f4; clear f4
    have HX4 : More ((w.alloc (.cells #[.int .i64 s.1.1, .int .i64 s.1.2, .int .i64 s.2.1.1, .int .i64 s.2.1.2, .slice a1 s.2.2.1.length c1, .slice a2 s.2.2.2.1.length c2, .slice a3 s.2.2.2.2.length c3] 34)).alloc (.cells #[.int .i64 0, .int .i64 0, .int .i64 0, .int .i64 0, .slice none 0 0, .slice none 0 0, .slice none 0 0] 34)) w4 := mC; have HB4 := HB _ HX4; have hz4 := More.size HX4; (try simp at hz4); have hb4 := hb4
    go_wp2_with fail
    refine bodyPost_ret (v := .tuple #[.agg #[.int .i64 s.1.1, .int .i64 s.1.2, .int .i64 s.2.1.1, .int .i64 s.2.1.2, .slice ya1 s.2.2.1.length yc1, .slice ya2 s.2.2.2.1.length yc2, .slice ya3 s.2.2.2.2.length yc3], .bool false]) ?_ rfl ?_
    · simp [results, Try.results10, go_sem, *]
    · exact ⟨_, _, _, rfl, mC2, by exact Ty.fresh_mono (Ty.fresh_turns (bs := [w.heap.size + 1]) F4.out tC (by have := hz1; simp <;> omega)) (by have := hz1; omega)⟩
  have EB : addB s l = sceneOk (turnS s (s.2.2.2.1 ++ [l])) := by unfold addB; rw [h1]; rfl
  have EF : addF s l = if sceneOk (turnS s (s.2.2.2.1 ++ [l])) then turnS s (s.2.2.2.1 ++ [l]) else s := by unfold addF; rw [EB]; rfl
  rw [EB, EF]
  obtain ⟨ok, hok⟩ : ∃ ok, ok = sceneOk (turnS s (s.2.2.2.1 ++ [l])) := ⟨_, rfl⟩
  obtain ⟨R, hR⟩ : ∃ R, R = (if sceneOk (turnS s (s.2.2.2.1 ++ [l])) then turnS s (s.2.2.2.1 ++ [l]) else s) := ⟨_, rfl⟩
  rw [← hR, ← hok]
  have HK := Lib.hid h1; have HR := Lib.hid hR; have HOK := Lib.hid hok; clear h1 EB EF hR hok
  have HC : ∀ w', Turns [w.heap.size + 1] ((w.alloc (.cells #[.int .i64 s.1.1, .int .i64 s.1.2, .int .i64 s.2.1.1, .int .i64 s.2.1.2, .slice a1 s.2.2.1.length c1, .slice a2 s.2.2.2.1.length c2, .slice a3 s.2.2.2.2.length c3] 34)).alloc (.cells #[.int .i64 0, .int .i64 0, .int .i64 0, .int .i64 0, .slice none 0 0, .slice none 0 0, .slice none 0 0] 34)) w' → w'.cell? ⟨w.heap.size, 0, none⟩ = some (.int .i64 s.1.1) ∧ w'.cell? ⟨w.heap.size, 1, none⟩ = some (.int .i64 s.1.2) ∧ w'.cell? ⟨w.heap.size, 2, none⟩ = some (.int .i64 s.2.1.1) ∧ w'.cell? ⟨w.heap.size, 3, none⟩ = some (.int .i64 s.2.1.2) ∧ w'.cell? ⟨w.heap.size, 4, none⟩ = some (.slice a1 s.2.2.1.length c1) ∧ w'.cell? ⟨w.heap.size, 5, none⟩ = some (.slice a2 s.2.2.2.1.length c2) ∧ w'.cell? ⟨w.heap.size, 6, none⟩ = some (.slice a3 s.2.2.2.2.length c3) := fun w' h => ⟨cell_heap (box_new (by simp) (More.un (More.refl _)) 0) (h.block _ (by simp <;> omega) (by simp <;> omega)), cell_heap (box_new (by simp) (More.un (More.refl _)) 1) (h.block _ (by simp <;> omega) (by simp <;> omega)), cell_heap (box_new (by simp) (More.un (More.refl _)) 2) (h.block _ (by simp <;> omega) (by simp <;> omega)), cell_heap (box_new (by simp) (More.un (More.refl _)) 3) (h.block _ (by simp <;> omega) (by simp <;> omega)), cell_heap (box_new (by simp) (More.un (More.refl _)) 4) (h.block _ (by simp <;> omega) (by simp <;> omega)), cell_heap (box_new (by simp) (More.un (More.refl _)) 5) (h.block _ (by simp <;> omega) (by simp <;> omega)), cell_heap (box_new (by simp) (More.un (More.refl _)) 6) (h.block _ (by simp <;> omega) (by simp <;> omega))⟩
  have HX : More ((w.alloc (.cells #[.int .i64 s.1.1, .int .i64 s.1.2, .int .i64 s.2.1.1, .int .i64 s.2.1.2, .slice a1 s.2.2.1.length c1, .slice a2 s.2.2.2.1.length c2, .slice a3 s.2.2.2.2.length c3] 34)).alloc (.cells #[.int .i64 0, .int .i64 0, .int .i64 0, .int .i64 0, .slice none 0 0, .slice none 0 0, .slice none 0 0] 34)) ((w.alloc (.cells #[.int .i64 s.1.1, .int .i64 s.1.2, .int .i64 s.2.1.1, .int .i64 s.2.1.2, .slice a1 s.2.2.1.length c1, .slice a2 s.2.2.2.1.length c2, .slice a3 s.2.2.2.2.length c3] 34)).alloc (.cells #[.int .i64 0, .int .i64 0, .int .i64 0, .int .i64 0, .slice none 0 0, .slice none 0 0, .slice none 0 0] 34)) := More.refl _
  have HB : ∀ w', More ((w.alloc (.cells #[.int .i64 s.1.1, .int .i64 s.1.2, .int .i64 s.2.1.1, .int .i64 s.2.1.2, .slice a1 s.2.2.1.length c1, .slice a2 s.2.2.2.1.length c2, .slice a3 s.2.2.2.2.length c3] 34)).alloc (.cells #[.int .i64 0, .int .i64 0, .int .i64 0, .int .i64 0, .slice none 0 0, .slice none 0 0, .slice none 0 0] 34)) w' → w'.cell? ⟨w.heap.size, 0, none⟩ = some (.int .i64 s.1.1) ∧ w'.cell? ⟨w.heap.size, 1, none⟩ = some (.int .i64 s.1.2) ∧ w'.cell? ⟨w.heap.size, 2, none⟩ = some (.int .i64 s.2.1.1) ∧ w'.cell? ⟨w.heap.size, 3, none⟩ = some (.int .i64 s.2.1.2) ∧ w'.cell? ⟨w.heap.size, 4, none⟩ = some (.slice a1 s.2.2.1.length c1) ∧ w'.cell? ⟨w.heap.size, 5, none⟩ = some (.slice a2 s.2.2.2.1.length c2) ∧ w'.cell? ⟨w.heap.size, 6, none⟩ = some (.slice a3 s.2.2.2.2.length c3) ∧ (∀ j, w'.frozen? ⟨w.heap.size, j, none⟩ = false) ∧ w'.cell? ⟨w.heap.size + 1, 0, none⟩ = some (.int .i64 0) ∧ w'.cell? ⟨w.heap.size + 1, 1, none⟩ = some (.int .i64 0) ∧ w'.cell? ⟨w.heap.size + 1, 2, none⟩ = some (.int .i64 0) ∧ w'.cell? ⟨w.heap.size + 1, 3, none⟩ = some (.int .i64 0) ∧ w'.cell? ⟨w.heap.size + 1, 4, none⟩ = some (.slice none 0 0) ∧ w'.cell? ⟨w.heap.size + 1, 5, none⟩ = some (.slice none 0 0) ∧ w'.cell? ⟨w.heap.size + 1, 6, none⟩ = some (.slice none 0 0) ∧ (∀ j, w'.frozen? ⟨w.heap.size + 1, j, none⟩ = false) := fun w' h => ⟨box_new (by simp) (More.un h) 0, box_new (by simp) (More.un h) 1, box_new (by simp) (More.un h) 2, box_new (by simp) (More.un h) 3, box_new (by simp) (More.un h) 4, box_new (by simp) (More.un h) 5, box_new (by simp) (More.un h) 6, fun j => box_free (by simp) (More.un h) j, box_new (by simp) h 0, box_new (by simp) h 1, box_new (by simp) h 2, box_new (by simp) h 3, box_new (by simp) h 4, box_new (by simp) h 5, box_new (by simp) h 6, fun j => box_free (by simp) h j⟩
  go_enter Try.func10, Try.ntmps10
  go_wp2_with fail
  refine (impl_IsValidScene _ s _ (Ty.at_more HV.out mC) HW.out).mono ?_
  rintro e w1 ⟨rfl, hb1⟩
  rw [HK.out]
  have HX1 : More ((w.alloc (.cells #[.int .i64 s.1.1, .int .i64 s.1.2, .int .i64 s.2.1.1, .int .i64 s.2.1.2, .slice a1 s.2.2.1.length c1, .slice a2 s.2.2.2.1.length c2, .slice a3 s.2.2.2.2.length c3] 34)).alloc (.cells #[.int .i64 0, .int .i64 0, .int .i64 0, .int .i64 0, .slice none 0 0, .slice none 0 0, .slice none 0 0] 34)) w1 := mC; have HB1 := HB _ HX1; have hz1 := More.size HX1; (try simp at hz1); have hb1 := hb1
  go_wp2_with fail
  go_region_held3 (fun w' => Turns [w.heap.size + 1] ((w.alloc (.cells #[.int .i64 s.1.1, .int .i64 s.1.2, .int .i64 s.2.1.1, .int .i64 s.2.1.2, .slice a1 s.2.2.1.length c1, .slice a2 s.2.2.2.1.length c2, .slice a3 s.2.2.2.2.length c3] 34)).alloc (.cells #[.int .i64 0, .int .i64 0, .int .i64 0, .int .i64 0, .slice none 0 0, .slice none 0 0, .slice none 0 0] 34)) w') (first | exact tC | exact mC2) (first | (go_at_call 35; (with_reducible refine (clip_vecss a2 _ c2 s.2.2.2.1 _ (Ty.at_more HO.out mC)).mono ?_); rintro e w2 ⟨p2, rfl, hb2, f2⟩; have G2 := Lib.hid f2; clear f2; have HX2 : More ((w.alloc (.cells #[.int .i64 s.1.1, .int .i64 s.1.2, .int .i64 s.2.1.1, .int .i64 s.2.1.2, .slice a1 s.2.2.1.length c1, .slice a2 s.2.2.2.1.length c2, .slice a3 s.2.2.2.2.length c3] 34)).alloc (.cells #[.int .i64 0, .int .i64 0, .int .i64 0, .int .i64 0, .slice none 0 0, .slice none 0 0, .slice none 0 0] 34)) w2 := mC; have HB2 := HB _ HX2; have hz2 := More.size HX2; (try simp at hz2); have hb2 := hb2) | (refine step_pushAt tVecs rfl _ _ 32 rfl 31 i0 (.slice none 0 0) 24 Try.underlying32 hi iz0 iz1 iz2 rfl (by decide) (ao := p2) (n := s.2.2.2.1.length) (l := s.2.2.2.1) rfl (Ty.at_more G2.out mC) rfl (C := [.slice oa l.length oc]) (one_cell (by first | exact box_new rfl (More.refl _) 0 | exact box_new rfl hb2 0 | exact box_new rfl (More.undrew hb2) 0)) (y := l) (Ty.at_more HL.out mC) HLN.out (by decide) ?_; intro v3 w3 f3 hb3; obtain ⟨x3a, x3n, x3c, e9⟩ := sh_slice f3; simp only [List.cons.injEq, and_true] at e9; subst e9; have G3 := Lib.hid f3; clear f3; have HX3 : More ((w.alloc (.cells #[.int .i64 s.1.1, .int .i64 s.1.2, .int .i64 s.2.1.1, .int .i64 s.2.1.2, .slice a1 s.2.2.1.length c1, .slice a2 s.2.2.2.1.length c2, .slice a3 s.2.2.2.2.length c3] 34)).alloc (.cells #[.int .i64 0, .int .i64 0, .int .i64 0, .int .i64 0, .slice none 0 0, .slice none 0 0, .slice none 0 0] 34)) w3 := mC; have HB3 := HB _ HX3; have hz3 := More.size HX3; (try simp at hz3); have hb3 := hb3) | (go_at_call 34; (with_reducible refine (impl_turned _ s _ (s.2.2.2.1 ++ [l]) _ (Ty.at_more HV.out mC) HW.out (Ty.at_more G3.out mC) HWO.out).mono ?_); rintro e w4 ⟨u4, v4, t4, rfl, hb4, f4⟩; rw [← HR.out] at f4; rw [← HOK.out]; obtain ⟨ya1, yn1, yc1, ya2, yn2, yc2, ya3, yn3, yc3, rfl, rfl, rfl⟩ := scene_sh (Ty.fresh_at f4); have F4 := Lib.hid f4; clear f4; have HX4 : More ((w.alloc (.cells #[.int .i64 s.1.1, .int .i64 s.1.2, .int .i64 s.2.1.1, .int .i64 s.2.1.2, .slice a1 s.2.2.1.length c1, .slice a2 s.2.2.2.1.length c2, .slice a3 s.2.2.2.2.length c3] 34)).alloc (.cells #[.int .i64 0, .int .i64 0, .int .i64 0, .int .i64 0, .slice none 0 0, .slice none 0 0, .slice none 0 0] 34)) w4 := mC; have HB4 := HB _ HX4; have hz4 := More.size HX4; (try simp at hz4); have hb4 := hb4))
  all_goals
    go_wp2_with fail
    refine bodyPost_ret (v := .tuple #[.agg #[.int .i64 s.1.1, .int .i64 s.1.2, .int .i64 s.2.1.1, .int .i64 s.2.1.2, .slice ya1 yn1 yc1, .slice ya2 yn2 yc2, .slice ya3 yn3 yc3], .bool ok]) ?_ rfl ?_
    rotate_left
    · exact ⟨_, _, _, rfl, mC2, by exact Ty.fresh_mono (Ty.fresh_turns (bs := [w.heap.size + 1]) F4.out tC (by have h1 := hz1; have h2 := hz2; have h3 := hz3; (try simp) <;> omega)) (by have h1 := hz1; have h2 := hz2; have h3 := hz3; (try simp) <;> omega)⟩
    · simp [results, Try.results10, go_sem, *]
theorem infoVecS7 : (Try.prog.info? 31).map (fun i => (i.zero, i.size, i.bytes)) = some (some (.slice none 0 0), 1, 24) := by kernel_rfl
theorem SceneNew.lt {B : Nat} {W : World} {u v t : Value} {s : QScene} (h : SceneNew B W u v t s) {g : Nat} (hg : v.ownBlock = some g) : g < W.heap.size := by
  obtain ⟨B1, T1, B2, T2, B3, T3, h1, h2, _⟩ := h
  obtain ⟨xs, bss, q1, _⟩ := h2
  exact (ownsRow_lt q1 hg).2
theorem SceneNew.sh {B : Nat} {W : World} {u v t : Value} {s : QScene} (h : SceneNew B W u v t s) : ∃ (a1 : Option Addr) (n1 c1 : Nat) (a2 : Option Addr) (n2 c2 : Nat) (a3 : Option Addr) (n3 c3 : Nat), u = .slice a1 n1 c1 ∧ v = .slice a2 n2 c2 ∧ t = .slice a3 n3 c3 := by
  obtain ⟨B1, T1, B2, T2, B3, T3, h1, h2, h3, _⟩ := h
  obtain ⟨_, _, rfl⟩ := sl_len h1.at
  obtain ⟨_, _, rfl⟩ := sl_len (Ty.fresh_at (ListOwn.fresh h2))
  obtain ⟨_, _, rfl⟩ := sl_len h3.at
  exact ⟨_, _, _, _, _, _, _, _, _, rfl, rfl, rfl⟩
theorem scene_rd {p : Nat → Prop} {w : World} {s : QScene} {u v t : Value} (f0 : fVec.ok s.1) (f1 : fVec.ok s.2.1) (h1 : tVecs.rd p w [u] s.2.2.1) (h2 : tVecSS.rd p w [v] s.2.2.2.1) (h3 : tVecs.rd p w [t] s.2.2.2.2) :
    tScene.rd p w [.int .i64 s.1.1, .int .i64 s.1.2, .int .i64 s.2.1.1, .int .i64 s.2.1.2, u, v, t] s :=
  ⟨[.int .i64 s.1.1, .int .i64 s.1.2], _, rfl, (fVec.rd_iff _ _ _ _).2 ⟨rfl, f0⟩, [.int .i64 s.2.1.1, .int .i64 s.2.1.2], _, rfl, (fVec.rd_iff _ _ _ _).2 ⟨rfl, f1⟩, [u], _, rfl, h1, [v], _, rfl, h2, h3⟩
theorem own_ge {α : Type} {S : Ty α} {B : Nat} {bs : List Nat} {w : World} {cs : List Value} {x : α} (h : S.own bs w cs x) (hb : ∀ b ∈ bs, B ≤ b) : S.rd (fun k => B ≤ k) w cs x := S.keep (S.own_rd h) (fun k hk hl => ⟨hb k hk, rfl, hl⟩)
theorem SceneNew.rd {B : Nat} {W : World} {u v t : Value} {s : QScene} (h : SceneNew B W u v t s) (f0 : fVec.ok s.1) (f1 : fVec.ok s.2.1) : tScene.rd (fun k => B ≤ k) W [.int .i64 s.1.1, .int .i64 s.1.2, .int .i64 s.2.1.1, .int .i64 s.2.1.2, u, v, t] s := by
  obtain ⟨B1, T1, B2, T2, B3, T3, h1, h2, h3, h4, o1, o2, p1, p2, p3, p4⟩ := h
  obtain ⟨b1, k1, _, l1⟩ := h1
  obtain ⟨b3, k3, _, l3⟩ := h3
  obtain ⟨b2, k2, _, l2⟩ := ListOwn.fresh h2
  exact scene_rd f0 f1 (own_ge k1 fun b hb => by have := l1 b hb; omega) (own_ge k2 fun b hb => by have := l2 b hb; omega) (own_ge k3 fun b hb => by have := l3 b hb; omega)
/-- The parts of the new scene but the obstacles stay where only the obstacles' row turns and blocks that came later. -/
theorem SceneNew.keep {B : Nat} {W W' : World} {u v t : Value} {s : QScene} (h : SceneNew B W u v t s) {bs : List Nat} (ht : Turns bs W W') (hb : ∀ k ∈ bs, some k = v.ownBlock ∨ W.heap.size ≤ k ∨ k < B) : tVecs.rd (fun k => B ≤ k) W' [u] s.2.2.1 ∧ tVecs.rd (fun k => B ≤ k) W' [t] s.2.2.2.2 := by
  obtain ⟨B1, T1, B2, T2, B3, T3, h1, h2, h3, h4, o1, o2, p1, p2, p3, p4⟩ := h
  obtain ⟨xs, bss, q1, _⟩ := h2
  obtain ⟨b1, k1, _, l1⟩ := h1
  obtain ⟨b3, k3, _, l3⟩ := h3
  refine ⟨own_ge (Ty.own_turns k1 ht fun k hk hk2 => ?_) (fun b hb => by have := l1 b hb; omega), own_ge (Ty.own_turns k3 ht fun k hk hk2 => ?_) (fun b hb => by have := l3 b hb; omega)⟩
  · have r1 := l1 k hk; have r2 := tVecs.own_lt k1 k hk
    rcases hb k hk2 with h | h | h
    · have r3 := h4 k h.symm; have r4 := ownsRow_lt q1 h.symm; omega
    · omega
    · omega
  · have r1 := l3 k hk; have r2 := tVecs.own_lt k3 k hk
    rcases hb k hk2 with h | h | h
    · have r3 := h4 k h.symm; have r4 := ownsRow_lt q1 h.symm; omega
    · omega
    · omega
theorem rd_turnsP {α : Type} {S : Ty α} {p q : Nat → Prop} {bs : List Nat} {w w' : World} {cs : List Value} {x : α} (h : S.rd p w cs x) (t : Turns bs w w') (hp : ∀ k ∈ bs, ¬ p k) (hq : ∀ k, p k → q k) : S.rd q w' cs x :=
  S.keep h (fun k hk hl => ⟨hq k hk, t.block k hl (fun h' => hp k h' hk), Nat.lt_of_lt_of_le hl t.size⟩)
set_option maxRecDepth 8000 in
set_option maxHeartbeats 12800000 in
theorem spec_AddObstacle (cs : List Value) (s : QScene) (v : Value) (l : List QV) (w : World) (hv : tScene.at w cs s) (hw : wScene s + l.length ≤ 1048576) (hl : tVecs.at w [v] l) :
    Calls Try.prog 7 #[.agg cs.toArray, v] w fun e w' => ∃ u v t, e = .returned (.tuple #[.agg #[.int .i64 s.1.1, .int .i64 s.1.2, .int .i64 s.2.1.1, .int .i64 s.2.1.2, u, v, t], .bool (addB s l)]) ∧ More w w' ∧
      tScene.at w' [.int .i64 s.1.1, .int .i64 s.1.2, .int .i64 s.2.1.1, .int .i64 s.2.1.2, u, v, t] (addF s l) := by
  obtain ⟨i0, hi, iz0, iz1, iz2⟩ := info_parts infoVecS7
  obtain ⟨j0, ji, jz0, jz1, jz2⟩ := info_parts infoVec
  obtain ⟨a1, c1, a2, c2, a3, c3, rfl, o0, o1, f2, f3, f4⟩ := scene_cells hv
  obtain ⟨oa, oc, rfl⟩ := sl_len hl
  have HV := Lib.hid hv; have HW : Hid (wScene s ≤ 1048576) := Lib.hid (by omega); have HL := Lib.hid hl; have O0 := Lib.hid o0; have O1 := Lib.hid o1
  have HWO : Hid (wVecSS (s.2.2.2.1 ++ [l]) ≤ 1048577) := Lib.hid (by rw [w_add]; unfold wScene at hw; omega)
  have HLN : Hid (s.2.2.2.1.length ≤ 2097152) := Lib.hid (by unfold wScene wVecSS at hw; omega)
  have HLL : Hid (l.length ≤ 2097152) := Lib.hid (by omega)
  clear hv hw hl o0 o1 f2 f3 f4
  show Calls Try.prog 7 #[.agg #[.int .i64 s.1.1, .int .i64 s.1.2, .int .i64 s.2.1.1, .int .i64 s.2.1.2, .slice a1 s.2.2.1.length c1, .slice a2 s.2.2.2.1.length c2, .slice a3 s.2.2.2.2.length c3], .slice oa l.length oc] w _
  obtain ⟨ok, hok⟩ : ∃ ok, ok = addB s l := ⟨_, rfl⟩
  rw [← hok]
  have HOK := Lib.hid hok; clear hok
  have HC : ∀ w', Turns [w.heap.size + 1] ((w.alloc (.cells #[.int .i64 s.1.1, .int .i64 s.1.2, .int .i64 s.2.1.1, .int .i64 s.2.1.2, .slice a1 s.2.2.1.length c1, .slice a2 s.2.2.2.1.length c2, .slice a3 s.2.2.2.2.length c3] 34)).alloc (.cells #[.int .i64 0, .int .i64 0, .int .i64 0, .int .i64 0, .slice none 0 0, .slice none 0 0, .slice none 0 0] 34)) w' → w'.cell? ⟨w.heap.size, 0, none⟩ = some (.int .i64 s.1.1) ∧ w'.cell? ⟨w.heap.size, 1, none⟩ = some (.int .i64 s.1.2) ∧ w'.cell? ⟨w.heap.size, 2, none⟩ = some (.int .i64 s.2.1.1) ∧ w'.cell? ⟨w.heap.size, 3, none⟩ = some (.int .i64 s.2.1.2) ∧ w'.cell? ⟨w.heap.size, 4, none⟩ = some (.slice a1 s.2.2.1.length c1) ∧ w'.cell? ⟨w.heap.size, 5, none⟩ = some (.slice a2 s.2.2.2.1.length c2) ∧ w'.cell? ⟨w.heap.size, 6, none⟩ = some (.slice a3 s.2.2.2.2.length c3) := fun w' h => ⟨cell_heap (box_new (by simp) (More.un (More.refl _)) 0) (h.block _ (by simp <;> omega) (by simp <;> omega)), cell_heap (box_new (by simp) (More.un (More.refl _)) 1) (h.block _ (by simp <;> omega) (by simp <;> omega)), cell_heap (box_new (by simp) (More.un (More.refl _)) 2) (h.block _ (by simp <;> omega) (by simp <;> omega)), cell_heap (box_new (by simp) (More.un (More.refl _)) 3) (h.block _ (by simp <;> omega) (by simp <;> omega)), cell_heap (box_new (by simp) (More.un (More.refl _)) 4) (h.block _ (by simp <;> omega) (by simp <;> omega)), cell_heap (box_new (by simp) (More.un (More.refl _)) 5) (h.block _ (by simp <;> omega) (by simp <;> omega)), cell_heap (box_new (by simp) (More.un (More.refl _)) 6) (h.block _ (by simp <;> omega) (by simp <;> omega))⟩
  have HX : More ((w.alloc (.cells #[.int .i64 s.1.1, .int .i64 s.1.2, .int .i64 s.2.1.1, .int .i64 s.2.1.2, .slice a1 s.2.2.1.length c1, .slice a2 s.2.2.2.1.length c2, .slice a3 s.2.2.2.2.length c3] 34)).alloc (.cells #[.int .i64 0, .int .i64 0, .int .i64 0, .int .i64 0, .slice none 0 0, .slice none 0 0, .slice none 0 0] 34)) ((w.alloc (.cells #[.int .i64 s.1.1, .int .i64 s.1.2, .int .i64 s.2.1.1, .int .i64 s.2.1.2, .slice a1 s.2.2.1.length c1, .slice a2 s.2.2.2.1.length c2, .slice a3 s.2.2.2.2.length c3] 34)).alloc (.cells #[.int .i64 0, .int .i64 0, .int .i64 0, .int .i64 0, .slice none 0 0, .slice none 0 0, .slice none 0 0] 34)) := More.refl _
  have HB : ∀ w', More ((w.alloc (.cells #[.int .i64 s.1.1, .int .i64 s.1.2, .int .i64 s.2.1.1, .int .i64 s.2.1.2, .slice a1 s.2.2.1.length c1, .slice a2 s.2.2.2.1.length c2, .slice a3 s.2.2.2.2.length c3] 34)).alloc (.cells #[.int .i64 0, .int .i64 0, .int .i64 0, .int .i64 0, .slice none 0 0, .slice none 0 0, .slice none 0 0] 34)) w' → w'.cell? ⟨w.heap.size, 0, none⟩ = some (.int .i64 s.1.1) ∧ w'.cell? ⟨w.heap.size, 1, none⟩ = some (.int .i64 s.1.2) ∧ w'.cell? ⟨w.heap.size, 2, none⟩ = some (.int .i64 s.2.1.1) ∧ w'.cell? ⟨w.heap.size, 3, none⟩ = some (.int .i64 s.2.1.2) ∧ w'.cell? ⟨w.heap.size, 4, none⟩ = some (.slice a1 s.2.2.1.length c1) ∧ w'.cell? ⟨w.heap.size, 5, none⟩ = some (.slice a2 s.2.2.2.1.length c2) ∧ w'.cell? ⟨w.heap.size, 6, none⟩ = some (.slice a3 s.2.2.2.2.length c3) ∧ (∀ j, w'.frozen? ⟨w.heap.size, j, none⟩ = false) ∧ w'.cell? ⟨w.heap.size + 1, 0, none⟩ = some (.int .i64 0) ∧ w'.cell? ⟨w.heap.size + 1, 1, none⟩ = some (.int .i64 0) ∧ w'.cell? ⟨w.heap.size + 1, 2, none⟩ = some (.int .i64 0) ∧ w'.cell? ⟨w.heap.size + 1, 3, none⟩ = some (.int .i64 0) ∧ w'.cell? ⟨w.heap.size + 1, 4, none⟩ = some (.slice none 0 0) ∧ w'.cell? ⟨w.heap.size + 1, 5, none⟩ = some (.slice none 0 0) ∧ w'.cell? ⟨w.heap.size + 1, 6, none⟩ = some (.slice none 0 0) ∧ (∀ j, w'.frozen? ⟨w.heap.size + 1, j, none⟩ = false) := fun w' h => ⟨box_new (by simp) (More.un h) 0, box_new (by simp) (More.un h) 1, box_new (by simp) (More.un h) 2, box_new (by simp) (More.un h) 3, box_new (by simp) (More.un h) 4, box_new (by simp) (More.un h) 5, box_new (by simp) (More.un h) 6, fun j => box_free (by simp) (More.un h) j, box_new (by simp) h 0, box_new (by simp) h 1, box_new (by simp) h 2, box_new (by simp) h 3, box_new (by simp) h 4, box_new (by simp) h 5, box_new (by simp) h 6, fun j => box_free (by simp) h j⟩
  go_enter Try.func7, Try.ntmps7
  go_wp2_with fail
  refine (spec_l10Copy _ s _ (Ty.at_more HV.out mC) HW.out).mono ?_
  rintro e w1 ⟨u1, v1, t1, rfl, hb1, f1⟩
  obtain ⟨xa1, xn1, xc1, xa2, xn2, xc2, xa3, xn3, xc3, rfl, rfl, rfl⟩ := SceneNew.sh f1
  have F1 := Lib.hid f1; clear f1
  have HX1 : More ((w.alloc (.cells #[.int .i64 s.1.1, .int .i64 s.1.2, .int .i64 s.2.1.1, .int .i64 s.2.1.2, .slice a1 s.2.2.1.length c1, .slice a2 s.2.2.2.1.length c2, .slice a3 s.2.2.2.2.length c3] 34)).alloc (.cells #[.int .i64 0, .int .i64 0, .int .i64 0, .int .i64 0, .slice none 0 0, .slice none 0 0, .slice none 0 0] 34)) w1 := mC; have HB1 := HB _ HX1; have hz1 := More.size HX1; (try simp at hz1); have hb1 := hb1
  go_wp2_with fail
  obtain ⟨B1, T1, B2, T2, B3, T3_, r1, r2, r3, r4, ro1, ro2, rp1, rp2, rp3, rp4⟩ := F1.out
  have HLst := Lib.hid r2; have LB2 := Lib.hid rp2
  clear r1 r2 r3 r4 ro1 ro2 rp1 rp2 rp3
  have NI : Hid (w1.heap.size ∉ (Value.slice xa2 xn2 xc2).ownBlock.toList) := Lib.hid (fun h => by
    cases hv : (Value.slice xa2 xn2 xc2).ownBlock with
    | none => rw [hv] at h; simp at h
    | some g => rw [hv] at h; simp at h; have := F1.out.lt hv; omega)
  go_region_law (first | (refine step_copyAll fVec rfl _ _ 31 rfl 30 j0 (.agg #[.int .i64 0, .int .i64 0]) 16 Try.underlying31 ji jz0 jz1 jz2 rfl (by decide) rfl (u := (.slice oa l.length oc)) rfl (Ty.at_more HL.out mC) HLL.out (by decide) ?_; intro v2 w2 f2 hb2; obtain ⟨x2a, x2c, rfl⟩ := sl_len (Ty.fresh_at f2); have G2 := Lib.hid f2; clear f2; have HX2 : More ((w.alloc (.cells #[.int .i64 s.1.1, .int .i64 s.1.2, .int .i64 s.2.1.1, .int .i64 s.2.1.2, .slice a1 s.2.2.1.length c1, .slice a2 s.2.2.2.1.length c2, .slice a3 s.2.2.2.2.length c3] 34)).alloc (.cells #[.int .i64 0, .int .i64 0, .int .i64 0, .int .i64 0, .slice none 0 0, .slice none 0 0, .slice none 0 0] 34)) w2 := mC; have HB2 := HB _ HX2; have hz2 := More.size HX2; (try simp at hz2); have hb2 := hb2; (have hw2 : w1.heap.size ≤ w2.heap.size := by have := hb2.size; (try simp at this); omega); (have Q2 : Box7 w2 w1.heap.size (.int .i64 s.1.1) (.int .i64 s.1.2) (.int .i64 s.2.1.1) (.int .i64 s.2.1.2) (.slice xa1 xn1 xc1) (.slice xa2 xn2 xc2) (.slice xa3 xn3 xc3) := Box7.new (X := w1) (t := 34) rfl mC); (have hw2l := Q2.lt); (have q2_k0 := Q2.k0); (have q2_k1 := Q2.k1); (have q2_k2 := Q2.k2); (have q2_k3 := Q2.k3); (have q2_k4 := Q2.k4); (have q2_k5 := Q2.k5); (have q2_k6 := Q2.k6); (have q2_fr := Q2.fr)) | (refine step_pushNew tVecs rfl _ _ 32 rfl 31 i0 (.slice none 0 0) 24 Try.underlying32 hi iz0 iz1 iz2 rfl (by decide) (B := B2) (Y := w1.heap.size + 1) (w0 := w1) (v := .slice xa2 xn2 xc2) (l := s.2.2.2.1) rfl HLst.out mC rp4 rfl (C := [.slice x2a l.length x2c]) (one_cell (box_new rfl (More.refl _) 0)) (y := l) (Ty.fresh_mono (Ty.fresh_more G2.out mC) (by simp <;> omega)) (by have := hw2l; simp; omega) HLN.out (by decide) ?_; intro v3 w3 f3 T3 m3; obtain ⟨x3a, x3n, x3c, e9⟩ := sh_slice (Ty.rd_at f3); simp only [List.cons.injEq, and_true] at e9; subst e9; (have Q3 := (Q2.keep (Turns.more ((Turns.refl [] w2).alloc (.cells #[.slice x2a l.length x2c] 31)))).turn T3 NI.out); have G3 := Lib.hid f3; clear f3; (have TT := Lib.hid T3); clear T3; (have hb3 : More ((w.alloc (.cells #[.int .i64 s.1.1, .int .i64 s.1.2, .int .i64 s.2.1.1, .int .i64 s.2.1.2, .slice a1 s.2.2.1.length c1, .slice a2 s.2.2.2.1.length c2, .slice a3 s.2.2.2.2.length c3] 34)).alloc (.cells #[.int .i64 0, .int .i64 0, .int .i64 0, .int .i64 0, .slice none 0 0, .slice none 0 0, .slice none 0 0] 34)) w3 := m3 ((w.alloc (.cells #[.int .i64 s.1.1, .int .i64 s.1.2, .int .i64 s.2.1.1, .int .i64 s.2.1.2, .slice a1 s.2.2.1.length c1, .slice a2 s.2.2.2.1.length c2, .slice a3 s.2.2.2.2.length c3] 34)).alloc (.cells #[.int .i64 0, .int .i64 0, .int .i64 0, .int .i64 0, .slice none 0 0, .slice none 0 0, .slice none 0 0] 34)) LB2.out mC); clear m3; have HX3 : More ((w.alloc (.cells #[.int .i64 s.1.1, .int .i64 s.1.2, .int .i64 s.2.1.1, .int .i64 s.2.1.2, .slice a1 s.2.2.1.length c1, .slice a2 s.2.2.2.1.length c2, .slice a3 s.2.2.2.2.length c3] 34)).alloc (.cells #[.int .i64 0, .int .i64 0, .int .i64 0, .int .i64 0, .slice none 0 0, .slice none 0 0, .slice none 0 0] 34)) w3 := mC; have HB3 := HB _ HX3; have hz3 := More.size HX3; (try simp at hz3); have hb3 := hb3; (have hw3l := Q3.lt); (have q3_k0 := Q3.k0); (have q3_k1 := Q3.k1); (have q3_k2 := Q3.k2); (have q3_k3 := Q3.k3); (have q3_k4 := Q3.k4); (have q3_k5 := Q3.k5); (have q3_k6 := Q3.k6); (have q3_fr := Q3.fr)))
  all_goals
    have HX5 : More ((w.alloc (.cells #[.int .i64 s.1.1, .int .i64 s.1.2, .int .i64 s.2.1.1, .int .i64 s.2.1.2, .slice a1 s.2.2.1.length c1, .slice a2 s.2.2.2.1.length c2, .slice a3 s.2.2.2.2.length c3] 34)).alloc (.cells #[.int .i64 0, .int .i64 0, .int .i64 0, .int .i64 0, .slice none 0 0, .slice none 0 0, .slice none 0 0] 34)) (w3.setCell ⟨w1.heap.size, 5, none⟩ (.slice x3a x3n x3c)) := mC2
    have QN := Q3.set5 (z := .slice x3a x3n x3c)
    have T5 : Turns (w1.heap.size :: (Value.slice xa2 xn2 xc2).ownBlock.toList) w1 (w3.setCell ⟨w1.heap.size, 5, none⟩ (.slice x3a x3n x3c)) :=
      ((More.turns (show More w1 (w2.alloc (.cells #[.slice x2a l.length x2c] 31)) from mC) _).trans (TT.out.mono (fun k hk => List.mem_cons_of_mem _ hk))).setCell (.inl (by simp)) _
    have KP := F1.out.keep T5 (fun k hk => by
      rcases List.mem_cons.1 hk with rfl | hk
      · exact .inr (.inl (Nat.le_refl _))
      · exact .inl (Option.mem_toList.1 hk).symm)
    have KEY : Hid (tScene.rd (fun k => ((w.alloc (.cells #[.int .i64 s.1.1, .int .i64 s.1.2, .int .i64 s.2.1.1, .int .i64 s.2.1.2, .slice a1 s.2.2.1.length c1, .slice a2 s.2.2.2.1.length c2, .slice a3 s.2.2.2.2.length c3] 34)).alloc (.cells #[.int .i64 0, .int .i64 0, .int .i64 0, .int .i64 0, .slice none 0 0, .slice none 0 0, .slice none 0 0] 34)).heap.size ≤ k) (w3.setCell ⟨w1.heap.size, 5, none⟩ (.slice x3a x3n x3c)) [.int .i64 s.1.1, .int .i64 s.1.2, .int .i64 s.2.1.1, .int .i64 s.2.1.2, .slice xa1 xn1 xc1, .slice x3a x3n x3c, .slice xa3 xn3 xc3] (addS s l)) := Lib.hid (scene_rd (s := addS s l) O0.out O1.out KP.1 (rd_turnsP G3.out ((Turns.refl [w1.heap.size] w3).setCell (.inl (by simp)) _) (by simp) (fun k hk => Nat.le_trans LB2.out hk.1)) KP.2)
    clear KP T5 TT G3 Q3 q3_k0 q3_k1 q3_k2 q3_k3 q3_k4 q3_k5 q3_k6 q3_fr
    generalize (w3.setCell ⟨w1.heap.size, 5, none⟩ (.slice x3a x3n x3c)) = W5 at HX5 QN KEY ⊢
    have HB5 := HB _ HX5; have hz5 := More.size HX5; (try simp at hz5)
    have qn_k0 := QN.k0; have qn_k1 := QN.k1; have qn_k2 := QN.k2; have qn_k3 := QN.k3; have qn_k4 := QN.k4; have qn_k5 := QN.k5; have qn_k6 := QN.k6
    have HX5 := HX5
    go_wp2_with fail
    refine (spec_IsValidScene _ s _ (Ty.at_more HV.out (More.trans (show More w ((w.alloc (.cells #[.int .i64 s.1.1, .int .i64 s.1.2, .int .i64 s.2.1.1, .int .i64 s.2.1.2, .slice a1 s.2.2.1.length c1, .slice a2 s.2.2.2.1.length c2, .slice a3 s.2.2.2.2.length c3] 34)).alloc (.cells #[.int .i64 0, .int .i64 0, .int .i64 0, .int .i64 0, .slice none 0 0, .slice none 0 0, .slice none 0 0] 34)) from mC) HX5)) HW.out).mono ?_
    rintro e w6 ⟨rfl, hb6⟩
    have HX6 : More ((w.alloc (.cells #[.int .i64 s.1.1, .int .i64 s.1.2, .int .i64 s.2.1.1, .int .i64 s.2.1.2, .slice a1 s.2.2.1.length c1, .slice a2 s.2.2.2.1.length c2, .slice a3 s.2.2.2.2.length c3] 34)).alloc (.cells #[.int .i64 0, .int .i64 0, .int .i64 0, .int .i64 0, .slice none 0 0, .slice none 0 0, .slice none 0 0] 34)) w6 := More.trans HX5 hb6
    have HB6 := HB _ HX6; have hz6 := More.size HX6; (try simp at hz6)
    have QN6 := QN.keep hb6
    have qo_k0 := QN6.k0; have qo_k1 := QN6.k1; have qo_k2 := QN6.k2; have qo_k3 := QN6.k3; have qo_k4 := QN6.k4; have qo_k5 := QN6.k5; have qo_k6 := QN6.k6
    have HX6 := HX6
    rcases Bool.eq_false_or_eq_true (sceneOk s) with h1 | h1
    rotate_left
    · have EB : addB s l = false := by unfold addB; rw [h1]; rfl
      have EF : addF s l = s := by unfold addF; rw [EB]; rfl
      rw [h1]
      have hok : ok = false := by rw [HOK.out, EB]
      have HE := Lib.hid EF
      subst hok
      clear EB EF h1
      go_wp2_with fail
      refine (spec_l10Copy _ s _ (Ty.at_more HV.out (More.trans (show More w ((w.alloc (.cells #[.int .i64 s.1.1, .int .i64 s.1.2, .int .i64 s.2.1.1, .int .i64 s.2.1.2, .slice a1 s.2.2.1.length c1, .slice a2 s.2.2.2.1.length c2, .slice a3 s.2.2.2.2.length c3] 34)).alloc (.cells #[.int .i64 0, .int .i64 0, .int .i64 0, .int .i64 0, .slice none 0 0, .slice none 0 0, .slice none 0 0] 34)) from mC) HX6)) HW.out).mono ?_
      rintro e w7 ⟨u7, v7, t7, rfl, hb7, f7⟩
      obtain ⟨ya1, yn1, yc1, ya2, yn2, yc2, ya3, yn3, yc3, rfl, rfl, rfl⟩ := SceneNew.sh f7
      have F7 := Lib.hid f7; clear f7
      have HX7 : More ((w.alloc (.cells #[.int .i64 s.1.1, .int .i64 s.1.2, .int .i64 s.2.1.1, .int .i64 s.2.1.2, .slice a1 s.2.2.1.length c1, .slice a2 s.2.2.2.1.length c2, .slice a3 s.2.2.2.2.length c3] 34)).alloc (.cells #[.int .i64 0, .int .i64 0, .int .i64 0, .int .i64 0, .slice none 0 0, .slice none 0 0, .slice none 0 0] 34)) w7 := More.trans HX6 hb7
      have HB7 := HB _ HX7; have hz7 := More.size HX7; (try simp at hz7)
      have HX7 := HX7
      go_wp2_with fail
      refine bodyPost_ret (v := .tuple #[.agg #[.int .i64 s.1.1, .int .i64 s.1.2, .int .i64 s.2.1.1, .int .i64 s.2.1.2, .slice ya1 yn1 yc1, .slice ya2 yn2 yc2, .slice ya3 yn3 yc3], .bool false]) ?_ rfl ?_
      · simp [results, Try.results7, go_sem, *]
      · refine ⟨_, _, _, rfl, mC2, ?_⟩
        rw [HE.out]
        have hb7 := hb7
        exact rd_turns (bs := [w.heap.size + 1]) (F7.out.rd O0.out O1.out) tC (by have := hz6; simp at this ⊢; omega)
    have E1 : addB s l = sceneOk (addS s l) := by unfold addB; rw [h1]; rfl
    rw [h1]
    have HK2 : Hid (ok = sceneOk (addS s l)) := Lib.hid (by rw [HOK.out, E1])
    clear h1 E1
    go_wp2_with fail
    refine (spec_IsValidSceneG _ (addS s l) _ (Ty.at_more (Ty.rd_at KEY.out) hb6) (by have h := HW.out; unfold wScene at h; show wVecS s.2.2.1 ≤ 1048576; omega) HWO.out (by have h := HW.out; unfold wScene at h; show wVecS s.2.2.2.2 ≤ 1048576; omega)).mono ?_
    rintro e w7 ⟨rfl, hb7⟩
    rw [← HK2.out]
    have HX7 : More ((w.alloc (.cells #[.int .i64 s.1.1, .int .i64 s.1.2, .int .i64 s.2.1.1, .int .i64 s.2.1.2, .slice a1 s.2.2.1.length c1, .slice a2 s.2.2.2.1.length c2, .slice a3 s.2.2.2.2.length c3] 34)).alloc (.cells #[.int .i64 0, .int .i64 0, .int .i64 0, .int .i64 0, .slice none 0 0, .slice none 0 0, .slice none 0 0] 34)) w7 := More.trans HX6 hb7
    have HB7 := HB _ HX7; have hz7 := More.size HX7; (try simp at hz7)
    have QN7 := QN6.keep hb7
    have qp_k0 := QN7.k0; have qp_k1 := QN7.k1; have qp_k2 := QN7.k2; have qp_k3 := QN7.k3; have qp_k4 := QN7.k4; have qp_k5 := QN7.k5; have qp_k6 := QN7.k6
    have HX7 := HX7
    cases ok with
    | true =>
      have HE : Hid (addF s l = addS s l) := Lib.hid (by unfold addF; rw [← HOK.out]; rfl)
      go_wp2_with fail
      refine bodyPost_ret (v := .tuple #[.agg #[.int .i64 s.1.1, .int .i64 s.1.2, .int .i64 s.2.1.1, .int .i64 s.2.1.2, .slice xa1 xn1 xc1, .slice x3a x3n x3c, .slice xa3 xn3 xc3], .bool true]) ?_ rfl ?_
      · simp [results, Try.results7, go_sem, *]
      · refine ⟨_, _, _, rfl, mC2, ?_⟩
        rw [HE.out]
        have hb67 := hb6.trans hb7
        exact rd_turns (bs := [w.heap.size + 1]) KEY.out tC (by simp)
    | false =>
      have HE : Hid (addF s l = s) := Lib.hid (by unfold addF; rw [← HOK.out]; rfl)
      go_wp2_with fail
      refine (spec_l10Copy _ s _ (Ty.at_more HV.out (More.trans (show More w ((w.alloc (.cells #[.int .i64 s.1.1, .int .i64 s.1.2, .int .i64 s.2.1.1, .int .i64 s.2.1.2, .slice a1 s.2.2.1.length c1, .slice a2 s.2.2.2.1.length c2, .slice a3 s.2.2.2.2.length c3] 34)).alloc (.cells #[.int .i64 0, .int .i64 0, .int .i64 0, .int .i64 0, .slice none 0 0, .slice none 0 0, .slice none 0 0] 34)) from mC) HX7)) HW.out).mono ?_
      rintro e w8 ⟨u8, v8, t8, rfl, hb8, f8⟩
      obtain ⟨ya1, yn1, yc1, ya2, yn2, yc2, ya3, yn3, yc3, rfl, rfl, rfl⟩ := SceneNew.sh f8
      have F8 := Lib.hid f8; clear f8
      have HX8 : More ((w.alloc (.cells #[.int .i64 s.1.1, .int .i64 s.1.2, .int .i64 s.2.1.1, .int .i64 s.2.1.2, .slice a1 s.2.2.1.length c1, .slice a2 s.2.2.2.1.length c2, .slice a3 s.2.2.2.2.length c3] 34)).alloc (.cells #[.int .i64 0, .int .i64 0, .int .i64 0, .int .i64 0, .slice none 0 0, .slice none 0 0, .slice none 0 0] 34)) w8 := More.trans HX7 hb8
      have HB8 := HB _ HX8; have hz8 := More.size HX8; (try simp at hz8)
      have HX8 := HX8
      go_wp2_with fail
      refine bodyPost_ret (v := .tuple #[.agg #[.int .i64 s.1.1, .int .i64 s.1.2, .int .i64 s.2.1.1, .int .i64 s.2.1.2, .slice ya1 yn1 yc1, .slice ya2 yn2 yc2, .slice ya3 yn3 yc3], .bool false]) ?_ rfl ?_
      · simp [results, Try.results7, go_sem, *]
      · refine ⟨_, _, _, rfl, mC2, ?_⟩
        rw [HE.out]
        have hb8 := hb8
        exact rd_turns (bs := [w.heap.size + 1]) (F8.out.rd O0.out O1.out) tC (by have := hz7; simp at this ⊢; omega)
theorem sceneOk_len {s : QScene} (h : sceneOk s = true) : wScene s ≤ 1000 := by
  unfold sceneOk at h
  simp only [Bool.and_eq_true, decide_eq_true_eq, List.all_eq_true, smallB] at h
  obtain ⟨⟨⟨⟨⟨⟨⟨_, _⟩, _⟩, ⟨⟨h1, _⟩, _⟩⟩, h2⟩, h3⟩, h4⟩, _⟩ := h
  have h5 : ∀ l : List (List QV), (∀ x ∈ l, x.length ≤ 5) → wsum wVecS l ≤ 5 * l.length := by
    intro l
    induction l with
    | nil => intro _; simp [wsum]
    | cons a l ih =>
      intro hl
      have q1 := ih (fun x hx => hl x (List.mem_cons_of_mem _ hx))
      have q2 := hl a (by simp)
      unfold wsum at q1 ⊢
      simp only [List.map_cons, List.sum_cons, List.length_cons]
      unfold wVecS at q1 ⊢
      omega
  have h6 := h5 s.2.2.2.1 (fun x hx => (h3 x hx).1.1)
  unfold wScene wVecSS
  unfold wVecS at h6 ⊢
  omega
theorem addF_len (s : QScene) (l : List QV) (hw : wScene s ≤ 1048576) : wScene (addF s l) ≤ 1048576 := by
  unfold addF
  split
  · rename_i h
    unfold addB at h
    rw [Bool.and_eq_true] at h
    have := sceneOk_len h.2
    omega
  · exact hw
theorem impl_AddObstacleL (cs : List Value) (s : QScene) (v : Value) (l : List QV) (w : World) (hv : tScene.at w cs s) (hw : wScene s + l.length ≤ 1048576) (hl : tVecs.at w [v] l) :
    Calls Try.prog 10 #[.agg cs.toArray, v] w fun e w' => ∃ c : List Value, e = .returned (.tuple #[.agg c.toArray, .bool (addB s l)]) ∧ More w w' ∧ tScene.fresh w.heap.size w' c (addF s l) :=
  (impl_AddObstacle cs s v l w hv hw hl).mono (by rintro e w' ⟨u, v, t, rfl, h1, h2⟩; exact ⟨_, rfl, h1, h2⟩)
theorem spec_AddObstacleL (cs : List Value) (s : QScene) (v : Value) (l : List QV) (w : World) (hv : tScene.at w cs s) (hw : wScene s + l.length ≤ 1048576) (hl : tVecs.at w [v] l) :
    Calls Try.prog 7 #[.agg cs.toArray, v] w fun e w' => ∃ c : List Value, e = .returned (.tuple #[.agg c.toArray, .bool (addB s l)]) ∧ More w w' ∧ tScene.at w' c (addF s l) :=
  (spec_AddObstacle cs s v l w hv hw hl).mono (by rintro e w' ⟨u, v, t, rfl, h1, h2⟩; exact ⟨_, rfl, h1, h2⟩)
end Go.Proofs.Ytnndjbomfcacfaa
