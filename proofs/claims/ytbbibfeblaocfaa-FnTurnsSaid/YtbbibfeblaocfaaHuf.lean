/- HullOf: a list in new memory. -/
import Derived.Test.YtbbibfeblaocfaaHul
import Derived.Test.YtbbibfeblaocfaaThn
import Derived.Laws.StructEq
namespace Go.Proofs.Ytbbibfeblaocfaa
open Go.RowKit
theorem FlatOwn.low {α : Type} {S : Ty α} {F : Flat S} {B B' : Nat} {e : TypeId} {w : World} {v : Value} {l : List α} (h : FlatOwn F B e w v l) (hb : B' ≤ B) : FlatOwn F B' e w v l := by
  obtain ⟨⟨h1, h2⟩, h3⟩ := h
  refine ⟨⟨h1, ?_⟩, h3⟩
  rcases h2 with h2 | ⟨g, cap, cur, e1, e2, e3⟩
  · exact .inl h2
  · exact .inr ⟨g, cap, cur, e1, by omega, e3⟩
theorem own_litN {α : Type} {S : Ty α} {F : Flat S} {B N : Nat} {e : TypeId} {w : World} (hN : w.heap.size = N) (hB : B ≤ N) : FlatOwn F B e (w.alloc (.cells #[] e)) (.slice (some ⟨N, 0, none⟩) 0 0) [] := by
  subst hN
  exact FlatOwn.lit hB
theorem own_form8 {w : World} {base : Nat} {e : TypeId} {size : Nat} {v : Value} {n : Nat} {xs : List Value} (h : w.ownsRow base e size v n xs) (hn : 0 < n) :
    ∃ g cap, v = .slice (some ⟨g, 0, none⟩) n cap ∧ base ≤ g ∧ g < w.heap.size := by
  rcases h.2 with ⟨_, h0⟩ | ⟨g, cap, cur, hv, hb, hg, _⟩
  · omega
  · exact ⟨g, cap, hv, hb, heap_lt hg⟩
set_option maxRecDepth 8000 in
set_option maxHeartbeats 6400000 in
theorem spec_HullOf (v : Value) (l : List QV) (w : World) (hv : tVecs.at w [v] l) (hl : l.length ≤ 64) :
    Calls Try.prog 132 #[v] w fun e w' => ∃ v' M, e = .returned v' ∧ More w w' ∧ FlatOwn fVec w.heap.size 42 w' v' M ∧ M.length ≤ 1024 := by
  obtain ⟨i0, hi, hz0, hz1, hz2⟩ := info_parts infoVec
  obtain ⟨ao, cap, rfl⟩ := sl_len hv
  have HV := Lib.hid hv; clear hv
  obtain ⟨n, hn⟩ : ∃ n, n = l.length := ⟨_, rfl⟩
  rw [← hn] at HV hl ⊢
  have HN := Lib.hid hn; clear hn
  have hn64 : ¬ (64 : Int) < (n : Int) := by omega
  go_enter Try.func132, Try.ntmps132
  go_wp2_with fail
  go_loopw [3, 19] (fun vs vi wr => ∃ (k : Nat) (M : List QV) (g c : Nat), vi = .int .i64 k ∧ k ≤ n ∧ More w wr ∧ M.length ≤ k ∧ vs = .slice (some ⟨g, 0, none⟩) M.length c ∧ Hid (FlatOwn fVec w.heap.size 42 wr vs M)) (fun _ vi _ => n - (intOf vi).toNat)
  case atStart => exact ⟨0, [], _, _, rfl, Nat.zero_le _, mC, Nat.le_refl _, rfl, Lib.hid (FlatOwn.lit (Nat.le_refl _))⟩
  case round =>
    obtain ⟨k, M, g, c, rfl, hk, hm, hM, rfl, HL⟩ := hrel
    have HMW := Lib.hid hm
    obtain ⟨len, hlen⟩ : ∃ len, len = M.length := ⟨_, rfl⟩
    rw [← hlen] at hM HL ⊢
    have HLen := Lib.hid hlen; clear hlen
    by_cases hlt : k < n
    · obtain ⟨b, off, x, y, rfl, hblt, hx, ox, oy, c0, c1⟩ := vec_el (Ty.at_more HV.out hm) (k := k) (by rw [← HN.out]; exact hlt)
      have OX := Lib.hid ox; have OY := Lib.hid oy; clear hx ox oy
      have hi0 : (0 : Int) ≤ (k : Int) := by omega
      have hi1 : (k : Int) < (n : Int) := by omega
      rcases Bool.eq_false_or_eq_true (isV (x, y)) with hvv | hvv
      rotate_left
      · have HVV := Lib.hid hvv; clear hvv
        go_wp2_with (go_at_call 161; refine (spec_IsValidVec x y _).mono ?_; rintro e w1 ⟨rfl, hb1⟩; rw [HVV.out])
        go_ret
        exact ⟨_, [], rfl, More.trans HMW.out mC, FlatOwn.none, by simp⟩
      have HVV := Lib.hid hvv; clear hvv
      go_wp2_with (go_at_call 161; refine (spec_IsValidVec x y _).mono ?_; rintro e w1 ⟨rfl, hb1⟩; rw [HVV.out])
      have HBX := bx2 wr.heap.size rfl hb1
      obtain ⟨BXB, hBXB⟩ : ∃ BXB, BXB = wr.heap.size := ⟨_, rfl⟩
      rw [← hBXB] at HBX ⊢
      have hw1s : BXB < w1.heap.size := by have := hb1.size; simp at this; omega
      clear hBXB
      go_loopw [6] (fun vi wr2 => ∃ m : Nat, vi = .int .i64 m ∧ m ≤ len ∧ BXB < wr2.heap.size ∧ wr2.cell? ⟨BXB, 0, none⟩ = some (.int .i64 x) ∧ wr2.cell? ⟨BXB, 1, none⟩ = some (.int .i64 y) ∧ More w wr2 ∧ Hid (FlatOwn fVec w.heap.size 42 wr2 (.slice (some ⟨g, 0, none⟩) len c) M)) (fun vi _ => len - (intOf vi).toNat)
      case atStart => exact ⟨0, rfl, Nat.zero_le _, hw1s, HBX.1, HBX.2.1, More.trans HMW.out mC, Lib.hid (HL.out.more mC)⟩
      case round =>
        clear HMW HL c0 c1 hblt HBX hw1s
        try clear hb1
        obtain ⟨m, rfl, hmn, hgl, cx, cy, hm2, HL2⟩ := hrel
        have HMW := Lib.hid hm2
        have hlc : len ≤ c := by
          obtain ⟨ao', cap', h0, k1, _⟩ := slRd_at HL2.out.at
          cases h0
          rw [HLen.out]
          exact k1
        have hm0 : (0 : Int) ≤ (m : Int) := by omega
        by_cases hml : m < len
        · obtain ⟨b1, o1, x1, y1, e1, hb1, -, -, -, p0, p1⟩ := vec_el HL2.out.at (k := m) (by rw [← HLen.out]; exact hml)
          cases e1
          rw [Nat.zero_add] at p0 p1
          have hm1 : (m : Int) < (len : Int) := by omega
          have E := fun (w' : World) (h : More wr w') => And.intro (((bcell h).1 _ _ hb1).trans p0) (And.intro (((bcell h).1 _ _ hb1).trans p1) (And.intro (((bcell h).1 _ _ hgl).trans cx) (((bcell h).1 _ _ hgl).trans cy)))
          rcases Bool.eq_false_or_eq_true (lessF (x1, y1) (x, y)) with hlf | hlf
          · have HLF := Lib.hid hlf; clear hlf
            go_wp2_with fail
            go_region_held3 (fun w' => More wr w') (first | exact More.refl _ | exact mC) (first | (go_at_call 162; refine (spec_l06Less x1 y1 x y _).mono ?_; rintro e w5 ⟨rfl, hb5⟩; rw [HLF.out]))
            all_goals
              go_wp2_with fail
              go_roundw
              case rel => exact ⟨m + 1, by go_num, by omega, Nat.lt_of_lt_of_le hgl (More.size mC), (E _ mC).2.2.1, (E _ mC).2.2.2, More.trans HMW.out mC, Lib.hid (HL2.out.more mC)⟩
              case measure => simp [intOf]; omega
          · have HLF := Lib.hid hlf; clear hlf
            rcases Bool.eq_false_or_eq_true (x1 == x) with ex | ex
            rotate_left
            · go_wp2_with fail
              go_region_held3 (fun w' => More wr w') (first | exact More.refl _ | exact mC) (first | (go_at_call 162; refine (spec_l06Less x1 y1 x y _).mono ?_; rintro e w5 ⟨rfl, hb5⟩; rw [HLF.out]))
              all_goals
                go_wp2_with fail
                go_quiet (fail)
                have hmb : More wr w5 := mC
                have hgl5 : BXB < w5.heap.size := Nat.lt_of_lt_of_le hgl hmb.size
                have cx5 : w5.cell? ⟨BXB, 0, none⟩ = some (.int .i64 x) := ((bcell hmb).1 _ _ hgl).trans cx
                have cy5 : w5.cell? ⟨BXB, 1, none⟩ = some (.int .i64 y) := ((bcell hmb).1 _ _ hgl).trans cy
                have Hw5 : Hid (More w w5) := Lib.hid (More.trans HMW.out hmb)
                have TK : Hid (∀ w', More w5 w' → tVecs.at w' [.slice (some ⟨g, 0, none⟩) m c] (M.take m)) := Lib.hid (fun w' h => Ty.at_more (sl_take HL2.out.at hmn) (More.trans hmb h))
                have HDr : Hid (∀ off' n' c', (off' = 0 + m * tVec.size ∨ c = m) → n' = len - m → c' = c - m → ∀ w', More w5 w' → tVecs.at w' [.slice (some ⟨g, off', none⟩) n' c'] (M.drop m)) := Lib.hid (fun off' n' c' h9 h8 h7 w' h => by subst h8; subst h7; exact Ty.at_more (sl_drop HL2.out.at hmn h9) (More.trans hmb h))
                have LT : Hid ((M.take m).length = m) := Lib.hid (by rw [List.length_take, ← HLen.out]; omega)
                have LD : Hid ((M.drop m).length = len - m) := Lib.hid (by rw [List.length_drop, ← HLen.out])
                have HB0 : w5.heap.size ≤ w5.heap.size := Nat.le_refl _
                have hmc : (m : Int) ≤ (c : Int) := by omega
                have hml5 : (m : Int) ≤ (len : Int) := by omega
                have hmcn : m ≤ c := by omega
                clear cx cy hgl
                try clear p0 p1 E hb1
                go_wp2_with (at_builtin; (repeat rw [drew_alloc]); go_loud (refine wpList_appAll fVec _ rfl _ _ 23 rfl (w5.heap.size) 42 i0 (.agg #[.int .i64 0, .int .i64 0]) 16 Try.underlying23 hi hz0 hz1 hz2 rfl (by decide) rfl (own_litN (N := w5.heap.size) (by first | rfl | simp) (Nat.le_refl _)) (More.refl _) (m := M.take m) rfl (TK.out _ mC) (Lib.hid (by have := LT.out; simp only [List.length_nil]; omega)) (by decide) (Lib.hid (More.size (show More w5 _ from mC))) ?_))
                intro v6 w6 hl6 hm6
                have HL6 : Hid (FlatOwn fVec w5.heap.size 42 w6 v6 (M.take m)) := Lib.hid (by simpa using hl6)
                have hmw6 : More w5 w6 := hm6 w5 rfl mC
                clear hl6 hm6
                have HB6 : Hid (w5.heap.size ≤ w6.heap.size) := Lib.hid hmw6.size
                have cx6 : w6.cell? ⟨BXB, 0, none⟩ = some (.int .i64 x) := ((bcell hmw6).1 _ _ hgl5).trans cx5
                have cy6 : w6.cell? ⟨BXB, 1, none⟩ = some (.int .i64 y) := ((bcell hmw6).1 _ _ hgl5).trans cy5
                clear cx5 cy5
                go_wp2_with (at_builtin; (repeat rw [drew_alloc]); go_loud (refine wpList_pushFlat fVec w6 rfl _ _ 23 rfl (w5.heap.size) 42 i0 (.agg #[.int .i64 0, .int .i64 0]) 16 Try.underlying23 hi hz0 hz1 hz2 rfl (by decide) rfl HL6.out mC rfl (by simp) (y := (x, y)) rfl ⟨OX.out, OY.out⟩ (Lib.hid (by have := LT.out; omega)) (by decide) HB6 ?_))
                intro v7 w7 hl7 hm7
                have HL7 := Lib.hid hl7
                have hmw7 : More w5 w7 := hm7 w5 rfl mC
                clear hl7 hm7
                have HB7 : Hid (w5.heap.size ≤ w7.heap.size) := Lib.hid hmw7.size
                have hck : ¬ c = m := by omega
                go_wp2_with (at_builtin; (repeat rw [drew_alloc]); go_loud (refine wpList_appAll fVec w7 rfl _ _ 23 rfl (w5.heap.size) 42 i0 (.agg #[.int .i64 0, .int .i64 0]) 16 Try.underlying23 hi hz0 hz1 hz2 rfl (by decide) rfl HL7.out mC (m := M.drop m) rfl (HDr.out _ _ _ (.inl (by show m * 2 = 0 + m * 2; omega)) rfl rfl _ mC) (Lib.hid (by have := LT.out; have := LD.out; rw [List.length_append]; simp only [List.length_singleton]; omega)) (by decide) HB7 ?_))
                intro v8 w8 hl8 hm8
                have hmw8 : More w w8 := More.trans Hw5.out (hm8 w5 rfl mC)
                obtain ⟨g8, c8, e8, -, -⟩ := own_form8 (n := (M.take m ++ (x, y) :: M.drop m).length) (by simpa using hl8.1) (by rw [List.length_append, List.length_cons]; omega)
                subst e8
                have hl9 : FlatOwn fVec w5.heap.size 42 w8 (.slice (some ⟨g8, 0, none⟩) (M.take m ++ (x, y) :: M.drop m).length c8) (M.take m ++ (x, y) :: M.drop m) := by simpa using hl8
                go_wp2_with fail
                go_roundw
                case rel => exact ⟨k + 1, M.take m ++ (x, y) :: M.drop m, g8, c8, by go_num, by omega, hmw8, by rw [List.length_append, List.length_cons, LT.out, LD.out]; omega, rfl, Lib.hid (hl9.low Hw5.out.size)⟩
                case measure => simp [intOf]; omega
            rcases Bool.eq_false_or_eq_true (y1 == y) with ey | ey
            rotate_left
            · go_wp2_with fail
              go_region_held3 (fun w' => More wr w') (first | exact More.refl _ | exact mC) (first | (go_at_call 162; refine (spec_l06Less x1 y1 x y _).mono ?_; rintro e w5 ⟨rfl, hb5⟩; rw [HLF.out]))
              all_goals
                go_wp2_with fail
                go_quiet (fail)
                have hmb : More wr w5 := mC
                have hgl5 : BXB < w5.heap.size := Nat.lt_of_lt_of_le hgl hmb.size
                have cx5 : w5.cell? ⟨BXB, 0, none⟩ = some (.int .i64 x) := ((bcell hmb).1 _ _ hgl).trans cx
                have cy5 : w5.cell? ⟨BXB, 1, none⟩ = some (.int .i64 y) := ((bcell hmb).1 _ _ hgl).trans cy
                have Hw5 : Hid (More w w5) := Lib.hid (More.trans HMW.out hmb)
                have TK : Hid (∀ w', More w5 w' → tVecs.at w' [.slice (some ⟨g, 0, none⟩) m c] (M.take m)) := Lib.hid (fun w' h => Ty.at_more (sl_take HL2.out.at hmn) (More.trans hmb h))
                have HDr : Hid (∀ off' n' c', (off' = 0 + m * tVec.size ∨ c = m) → n' = len - m → c' = c - m → ∀ w', More w5 w' → tVecs.at w' [.slice (some ⟨g, off', none⟩) n' c'] (M.drop m)) := Lib.hid (fun off' n' c' h9 h8 h7 w' h => by subst h8; subst h7; exact Ty.at_more (sl_drop HL2.out.at hmn h9) (More.trans hmb h))
                have LT : Hid ((M.take m).length = m) := Lib.hid (by rw [List.length_take, ← HLen.out]; omega)
                have LD : Hid ((M.drop m).length = len - m) := Lib.hid (by rw [List.length_drop, ← HLen.out])
                have HB0 : w5.heap.size ≤ w5.heap.size := Nat.le_refl _
                have hmc : (m : Int) ≤ (c : Int) := by omega
                have hml5 : (m : Int) ≤ (len : Int) := by omega
                have hmcn : m ≤ c := by omega
                clear cx cy hgl
                try clear p0 p1 E hb1
                go_wp2_with (at_builtin; (repeat rw [drew_alloc]); go_loud (refine wpList_appAll fVec _ rfl _ _ 23 rfl (w5.heap.size) 42 i0 (.agg #[.int .i64 0, .int .i64 0]) 16 Try.underlying23 hi hz0 hz1 hz2 rfl (by decide) rfl (own_litN (N := w5.heap.size) (by first | rfl | simp) (Nat.le_refl _)) (More.refl _) (m := M.take m) rfl (TK.out _ mC) (Lib.hid (by have := LT.out; simp only [List.length_nil]; omega)) (by decide) (Lib.hid (More.size (show More w5 _ from mC))) ?_))
                intro v6 w6 hl6 hm6
                have HL6 : Hid (FlatOwn fVec w5.heap.size 42 w6 v6 (M.take m)) := Lib.hid (by simpa using hl6)
                have hmw6 : More w5 w6 := hm6 w5 rfl mC
                clear hl6 hm6
                have HB6 : Hid (w5.heap.size ≤ w6.heap.size) := Lib.hid hmw6.size
                have cx6 : w6.cell? ⟨BXB, 0, none⟩ = some (.int .i64 x) := ((bcell hmw6).1 _ _ hgl5).trans cx5
                have cy6 : w6.cell? ⟨BXB, 1, none⟩ = some (.int .i64 y) := ((bcell hmw6).1 _ _ hgl5).trans cy5
                clear cx5 cy5
                go_wp2_with (at_builtin; (repeat rw [drew_alloc]); go_loud (refine wpList_pushFlat fVec w6 rfl _ _ 23 rfl (w5.heap.size) 42 i0 (.agg #[.int .i64 0, .int .i64 0]) 16 Try.underlying23 hi hz0 hz1 hz2 rfl (by decide) rfl HL6.out mC rfl (by simp) (y := (x, y)) rfl ⟨OX.out, OY.out⟩ (Lib.hid (by have := LT.out; omega)) (by decide) HB6 ?_))
                intro v7 w7 hl7 hm7
                have HL7 := Lib.hid hl7
                have hmw7 : More w5 w7 := hm7 w5 rfl mC
                clear hl7 hm7
                have HB7 : Hid (w5.heap.size ≤ w7.heap.size) := Lib.hid hmw7.size
                have hck : ¬ c = m := by omega
                go_wp2_with (at_builtin; (repeat rw [drew_alloc]); go_loud (refine wpList_appAll fVec w7 rfl _ _ 23 rfl (w5.heap.size) 42 i0 (.agg #[.int .i64 0, .int .i64 0]) 16 Try.underlying23 hi hz0 hz1 hz2 rfl (by decide) rfl HL7.out mC (m := M.drop m) rfl (HDr.out _ _ _ (.inl (by show m * 2 = 0 + m * 2; omega)) rfl rfl _ mC) (Lib.hid (by have := LT.out; have := LD.out; rw [List.length_append]; simp only [List.length_singleton]; omega)) (by decide) HB7 ?_))
                intro v8 w8 hl8 hm8
                have hmw8 : More w w8 := More.trans Hw5.out (hm8 w5 rfl mC)
                obtain ⟨g8, c8, e8, -, -⟩ := own_form8 (n := (M.take m ++ (x, y) :: M.drop m).length) (by simpa using hl8.1) (by rw [List.length_append, List.length_cons]; omega)
                subst e8
                have hl9 : FlatOwn fVec w5.heap.size 42 w8 (.slice (some ⟨g8, 0, none⟩) (M.take m ++ (x, y) :: M.drop m).length c8) (M.take m ++ (x, y) :: M.drop m) := by simpa using hl8
                go_wp2_with fail
                go_roundw
                case rel => exact ⟨k + 1, M.take m ++ (x, y) :: M.drop m, g8, c8, by go_num, by omega, hmw8, by rw [List.length_append, List.length_cons, LT.out, LD.out]; omega, rfl, Lib.hid (hl9.low Hw5.out.size)⟩
                case measure => simp [intOf]; omega
            go_wp2_with fail
            go_region_held3 (fun w' => More wr w') (first | exact More.refl _ | exact mC) (first | (go_at_call 162; refine (spec_l06Less x1 y1 x y _).mono ?_; rintro e w5 ⟨rfl, hb5⟩; rw [HLF.out]))
            all_goals
              go_wp2_with fail
              go_quiet (fail)
              go_wp2_with fail
              go_roundw
              case rel => exact ⟨k + 1, M, g, c, by go_num, by omega, More.trans HMW.out mC, by have := HLen.out; omega, by rw [← HLen.out], Lib.hid (by first | exact HL2.out.more mC | (rw [← HLen.out]; exact HL2.out.more mC))⟩
              case measure => simp [intOf]; omega
        · have hdl : decide ((m : Int) < (len : Int)) = false := decide_eq_false (by omega)
          go_wp2_with fail
          refine wp_region_held_drew (S := (fun w' => More wr w')) (by kernel_rfl) ?_ (fun hHeld => ?_)
          · first | exact More.refl _ | exact mC
          refine tk (v := ?_) 0 ⟨some 26, _, _, _, _, _⟩ rfl ?_ ?_
          rotate_left 2
          · (intro w hSw; (try dsimp only at hSw); go_simp; (try with_reducible rfl))
          (try simp only [Act.put, List.setIfInBounds_toArray, List.set_cons_zero, List.set_cons_succ])
          refine tk (v := ?_) 1 ⟨some 27, _, _, _, _, _⟩ rfl ?_ ?_
          rotate_left 2
          · (intro w hSw; (try dsimp only at hSw); go_simp; (try with_reducible rfl))
          (try simp only [Act.put, List.setIfInBounds_toArray, List.set_cons_zero, List.set_cons_succ])
          refine tk (v := ?_) 2 ⟨some 28, _, _, _, _, _⟩ rfl ?_ ?_
          rotate_left 2
          · (intro w hSw; (try dsimp only at hSw); go_simp; (try with_reducible rfl))
          (try simp only [Act.put, List.setIfInBounds_toArray, List.set_cons_zero, List.set_cons_succ])
          refine tk (v := ?_) 3 ⟨some 29, _, _, _, _, _⟩ rfl ?_ ?_
          rotate_left 2
          · (intro w hSw; (try dsimp only at hSw); go_simp; (try with_reducible rfl))
          (try simp only [Act.put, List.setIfInBounds_toArray, List.set_cons_zero, List.set_cons_succ])
          refine tk (v := ?_) 4 ⟨some 30, _, _, _, _, _⟩ rfl ?_ ?_
          rotate_left 2
          · (intro w hSw; (try dsimp only at hSw); go_simp; (try with_reducible rfl))
          (try simp only [Act.put, List.setIfInBounds_toArray, List.set_cons_zero, List.set_cons_succ])
          refine tk0 5 ⟨some 31, _, _, _, _, _⟩ rfl ?_
          (try simp only [Act.put, List.setIfInBounds_toArray, List.set_cons_zero, List.set_cons_succ])
          refine tk0 6 ⟨some 32, _, _, _, _, _⟩ rfl ?_
          (try simp only [Act.put, List.setIfInBounds_toArray, List.set_cons_zero, List.set_cons_succ])
          refine tk0 7 ⟨some 33, _, _, _, _, _⟩ rfl ?_
          (try simp only [Act.put, List.setIfInBounds_toArray, List.set_cons_zero, List.set_cons_succ])
          refine tk0 8 ⟨some 34, _, _, _, _, _⟩ rfl ?_
          (try simp only [Act.put, List.setIfInBounds_toArray, List.set_cons_zero, List.set_cons_succ])
          refine tk0 9 ⟨some 35, _, _, _, _, _⟩ rfl ?_
          (try simp only [Act.put, List.setIfInBounds_toArray, List.set_cons_zero, List.set_cons_succ])
          refine tk0 10 ⟨some 36, _, _, _, _, _⟩ rfl ?_
          (try simp only [Act.put, List.setIfInBounds_toArray, List.set_cons_zero, List.set_cons_succ])
          refine tk (v := ?_) 11 ⟨some 37, _, _, _, _, _⟩ rfl ?_ ?_
          rotate_left 2
          · (intro w hSw; (try dsimp only at hSw); go_simp; (try with_reducible rfl))
          (try simp only [Act.put, List.setIfInBounds_toArray, List.set_cons_zero, List.set_cons_succ])
          refine wpAnyH_done (by kernel_rfl) ?_ _
          go_wp2_with fail
          refine wp_region_held_drew (S := (fun w' => More wr w')) (by kernel_rfl) ?_ (fun hHeld => ?_)
          · first | exact More.refl _ | exact mC
          refine tk (v := ?_) 0 ⟨some 40, _, _, _, _, _⟩ rfl ?_ ?_
          rotate_left 2
          · (intro w hSw; (try dsimp only at hSw); go_simp; (try with_reducible rfl))
          (try simp only [Act.put, List.setIfInBounds_toArray, List.set_cons_zero, List.set_cons_succ])
          refine tk (v := ?_) 1 ⟨some 41, _, _, _, _, _⟩ rfl ?_ ?_
          rotate_left 2
          · (intro w hSw; (try dsimp only at hSw); go_simp; (try with_reducible rfl))
          (try simp only [Act.put, List.setIfInBounds_toArray, List.set_cons_zero, List.set_cons_succ])
          refine tk (v := ?_) 2 ⟨some 42, _, _, _, _, _⟩ rfl ?_ ?_
          rotate_left 2
          · (intro w hSw; (try dsimp only at hSw); go_simp; (try with_reducible rfl))
          (try simp only [Act.put, List.setIfInBounds_toArray, List.set_cons_zero, List.set_cons_succ])
          refine tk (v := ?_) 3 ⟨some 43, _, _, _, _, _⟩ rfl ?_ ?_
          rotate_left 2
          · (intro w hSw; (try dsimp only at hSw); go_simp; (try with_reducible rfl))
          (try simp only [Act.put, List.setIfInBounds_toArray, List.set_cons_zero, List.set_cons_succ])
          refine tk (v := ?_) 4 ⟨some 44, _, _, _, _, _⟩ rfl ?_ ?_
          rotate_left 2
          · (intro w hSw; (try dsimp only at hSw); go_simp; (try with_reducible rfl))
          (try simp only [Act.put, List.setIfInBounds_toArray, List.set_cons_zero, List.set_cons_succ])
          refine tk0 5 ⟨some 45, _, _, _, _, _⟩ rfl ?_
          (try simp only [Act.put, List.setIfInBounds_toArray, List.set_cons_zero, List.set_cons_succ])
          refine tk0 6 ⟨some 46, _, _, _, _, _⟩ rfl ?_
          (try simp only [Act.put, List.setIfInBounds_toArray, List.set_cons_zero, List.set_cons_succ])
          refine tk0 7 ⟨some 47, _, _, _, _, _⟩ rfl ?_
          (try simp only [Act.put, List.setIfInBounds_toArray, List.set_cons_zero, List.set_cons_succ])
          refine tk0 8 ⟨some 48, _, _, _, _, _⟩ rfl ?_
          (try simp only [Act.put, List.setIfInBounds_toArray, List.set_cons_zero, List.set_cons_succ])
          refine tk0 9 ⟨some 49, _, _, _, _, _⟩ rfl ?_
          (try simp only [Act.put, List.setIfInBounds_toArray, List.set_cons_zero, List.set_cons_succ])
          refine tk0 10 ⟨some 50, _, _, _, _, _⟩ rfl ?_
          (try simp only [Act.put, List.setIfInBounds_toArray, List.set_cons_zero, List.set_cons_succ])
          refine tk (v := ?_) 11 ⟨some 51, _, _, _, _, _⟩ rfl ?_ ?_
          rotate_left 2
          · (intro w hSw; (try dsimp only at hSw); go_simp; (try with_reducible rfl))
          (try simp only [Act.put, List.setIfInBounds_toArray, List.set_cons_zero, List.set_cons_succ])
          refine wpAnyH_done (by kernel_rfl) ?_ _
          have hmb : More wr wr := More.refl _
          have hgl5 : BXB < wr.heap.size := Nat.lt_of_lt_of_le hgl hmb.size
          have cx5 : wr.cell? ⟨BXB, 0, none⟩ = some (.int .i64 x) := ((bcell hmb).1 _ _ hgl).trans cx
          have cy5 : wr.cell? ⟨BXB, 1, none⟩ = some (.int .i64 y) := ((bcell hmb).1 _ _ hgl).trans cy
          have Hwr : Hid (More w wr) := Lib.hid (More.trans HMW.out hmb)
          have TK : Hid (∀ w', More wr w' → tVecs.at w' [.slice (some ⟨g, 0, none⟩) m c] (M.take m)) := Lib.hid (fun w' h => Ty.at_more (sl_take HL2.out.at hmn) (More.trans hmb h))
          have HDr : Hid (∀ off' n' c', (off' = 0 + m * tVec.size ∨ c = m) → n' = len - m → c' = c - m → ∀ w', More wr w' → tVecs.at w' [.slice (some ⟨g, off', none⟩) n' c'] (M.drop m)) := Lib.hid (fun off' n' c' h9 h8 h7 w' h => by subst h8; subst h7; exact Ty.at_more (sl_drop HL2.out.at hmn h9) (More.trans hmb h))
          have LT : Hid ((M.take m).length = m) := Lib.hid (by rw [List.length_take, ← HLen.out]; omega)
          have LD : Hid ((M.drop m).length = len - m) := Lib.hid (by rw [List.length_drop, ← HLen.out])
          have HB0 : wr.heap.size ≤ wr.heap.size := Nat.le_refl _
          have hmc : (m : Int) ≤ (c : Int) := by omega
          have hml5 : (m : Int) ≤ (len : Int) := by omega
          have hmcn : m ≤ c := by omega
          clear cx cy hgl
          try clear p0 p1 E hb1
          go_wp2_with (at_builtin; (repeat rw [drew_alloc]); go_loud (refine wpList_appAll fVec _ rfl _ _ 23 rfl (wr.heap.size) 42 i0 (.agg #[.int .i64 0, .int .i64 0]) 16 Try.underlying23 hi hz0 hz1 hz2 rfl (by decide) rfl (own_litN (N := wr.heap.size) (by first | rfl | simp) (Nat.le_refl _)) (More.refl _) (m := M.take m) rfl (TK.out _ mC) (Lib.hid (by have := LT.out; simp only [List.length_nil]; omega)) (by decide) (Lib.hid (More.size (show More wr _ from mC))) ?_))
          intro v6 w6 hl6 hm6
          have HL6 : Hid (FlatOwn fVec wr.heap.size 42 w6 v6 (M.take m)) := Lib.hid (by simpa using hl6)
          have hmw6 : More wr w6 := hm6 wr rfl mC
          clear hl6 hm6
          have HB6 : Hid (wr.heap.size ≤ w6.heap.size) := Lib.hid hmw6.size
          have cx6 : w6.cell? ⟨BXB, 0, none⟩ = some (.int .i64 x) := ((bcell hmw6).1 _ _ hgl5).trans cx5
          have cy6 : w6.cell? ⟨BXB, 1, none⟩ = some (.int .i64 y) := ((bcell hmw6).1 _ _ hgl5).trans cy5
          clear cx5 cy5
          go_wp2_with (at_builtin; (repeat rw [drew_alloc]); go_loud (refine wpList_pushFlat fVec w6 rfl _ _ 23 rfl (wr.heap.size) 42 i0 (.agg #[.int .i64 0, .int .i64 0]) 16 Try.underlying23 hi hz0 hz1 hz2 rfl (by decide) rfl HL6.out mC rfl (by simp) (y := (x, y)) rfl ⟨OX.out, OY.out⟩ (Lib.hid (by have := LT.out; omega)) (by decide) HB6 ?_))
          intro v7 w7 hl7 hm7
          have HL7 := Lib.hid hl7
          have hmw7 : More wr w7 := hm7 wr rfl mC
          clear hl7 hm7
          have HB7 : Hid (wr.heap.size ≤ w7.heap.size) := Lib.hid hmw7.size
          have hk0 : len - m = 0 := by omega
          by_cases hck : c = m
          · have hc0 : c - m = 0 := by omega
            go_wp2_with (at_builtin; (repeat rw [drew_alloc]); go_loud (refine wpList_appAll fVec w7 rfl _ _ 23 rfl (wr.heap.size) 42 i0 (.agg #[.int .i64 0, .int .i64 0]) 16 Try.underlying23 hi hz0 hz1 hz2 rfl (by decide) rfl HL7.out mC (m := M.drop m) rfl (HDr.out _ _ _ (.inr hck) (by omega) (by omega) _ mC) (Lib.hid (by have := LT.out; have := LD.out; rw [List.length_append]; simp only [List.length_singleton]; omega)) (by decide) HB7 ?_))
            intro v8 w8 hl8 hm8
            have hmw8 : More w w8 := More.trans Hwr.out (hm8 wr rfl mC)
            obtain ⟨g8, c8, e8, -, -⟩ := own_form8 (n := (M.take m ++ (x, y) :: M.drop m).length) (by simpa using hl8.1) (by rw [List.length_append, List.length_cons]; omega)
            subst e8
            have hl9 : FlatOwn fVec wr.heap.size 42 w8 (.slice (some ⟨g8, 0, none⟩) (M.take m ++ (x, y) :: M.drop m).length c8) (M.take m ++ (x, y) :: M.drop m) := by simpa using hl8
            go_wp2_with fail
            go_roundw
            case rel => exact ⟨k + 1, M.take m ++ (x, y) :: M.drop m, g8, c8, by go_num, by omega, hmw8, by rw [List.length_append, List.length_cons, LT.out, LD.out]; omega, rfl, Lib.hid (hl9.low Hwr.out.size)⟩
            case measure => simp [intOf]; omega
          · skip
            go_wp2_with (at_builtin; (repeat rw [drew_alloc]); go_loud (refine wpList_appAll fVec w7 rfl _ _ 23 rfl (wr.heap.size) 42 i0 (.agg #[.int .i64 0, .int .i64 0]) 16 Try.underlying23 hi hz0 hz1 hz2 rfl (by decide) rfl HL7.out mC (m := M.drop m) rfl (HDr.out _ _ _ (.inl (by show m * 2 = 0 + m * 2; omega)) (by omega) rfl _ mC) (Lib.hid (by have := LT.out; have := LD.out; rw [List.length_append]; simp only [List.length_singleton]; omega)) (by decide) HB7 ?_))
            intro v8 w8 hl8 hm8
            have hmw8 : More w w8 := More.trans Hwr.out (hm8 wr rfl mC)
            obtain ⟨g8, c8, e8, -, -⟩ := own_form8 (n := (M.take m ++ (x, y) :: M.drop m).length) (by simpa using hl8.1) (by rw [List.length_append, List.length_cons]; omega)
            subst e8
            have hl9 : FlatOwn fVec wr.heap.size 42 w8 (.slice (some ⟨g8, 0, none⟩) (M.take m ++ (x, y) :: M.drop m).length c8) (M.take m ++ (x, y) :: M.drop m) := by simpa using hl8
            go_wp2_with fail
            go_roundw
            case rel => exact ⟨k + 1, M.take m ++ (x, y) :: M.drop m, g8, c8, by go_num, by omega, hmw8, by rw [List.length_append, List.length_cons, LT.out, LD.out]; omega, rfl, Lib.hid (hl9.low Hwr.out.size)⟩
            case measure => simp [intOf]; omega
    · have hkn : ¬ (k : Int) < (n : Int) := by omega
      have hlen64 : len ≤ 64 := by omega
      by_cases h3 : len < 3
      · have h3' : (len : Int) < 3 := by omega
        go_wp2_with fail
        go_ret
        first | exact ⟨_, M, rfl, HMW.out, HL.out, by have := HLen.out; omega⟩ | exact ⟨_, rfl, HMW.out, M, HL.out, by have := HLen.out; omega⟩
      · have h3' : ¬ (len : Int) < 3 := by omega
        go_wp2_with fail
        go_loopw [8, 9] (fun vb vi wr2 => ∃ (q : Nat) (Q : List QV), vi = .int .i64 ((q : Int) - 1) ∧ q ≤ len ∧ Q.length + q = len ∧ More wr wr2 ∧ Hid (FlatOwn fVec wr.heap.size 42 wr2 vb Q)) (fun _ vi _ => (intOf vi + 1).toNat)
        case atStart => exact ⟨len, [], rfl, Nat.le_refl _, by simp, mC, Lib.hid (FlatOwn.lit (Nat.le_refl _))⟩
        case round =>
          obtain ⟨q, Q, rfl, hq, hQ, hm2, HQ⟩ := hrel
          have HM2 := Lib.hid hm2
          have HBs := Lib.hid hm2.size
          by_cases hq0 : q = 0
          · subst hq0
            have hneg : ((0 : Nat) : Int) - 1 = -1 := by omega
            rw [hneg]
            obtain ⟨ab, cb, rfl⟩ := HQ.out.len
            have hQl : Q.length = len := by omega
            rw [hQl] at HQ ⊢
            have HQL := Lib.hid hQl; clear hQl hQ
            have HMa : Hid (∀ w', More wr w' → tVecs.at w' [.slice (some ⟨g, 0, none⟩) len c] M) := Lib.hid (fun w' h => Ty.at_more HL.out.at (More.trans HM2.out h))
            have HQa : Hid (∀ w', More wr w' → tVecs.at w' [.slice ab len cb] Q) := Lib.hid (fun w' h => Ty.at_more HQ.out.at h)
            go_wp2_with (first | (go_at_call 163; (with_reducible refine (spec_l06Chain (.slice (some ⟨g, 0, none⟩) len c) M _ (HMa.out _ mC) (by have := HLen.out; omega)).mono ?_); rintro e w3 ⟨v3, M3, rfl, hb3, F3, hl3, hp3⟩; have hp3 := hp3 (by have := HLen.out; have := HQL.out; omega); obtain ⟨g3, c3, e3, -, -⟩ := own_form8 (n := M3.length) F3.1 hp3; subst e3; have hcp3 : M3.length ≤ c3 := (by obtain ⟨_, _, h0, k1, _⟩ := slRd_at F3.at; cases h0; exact k1); obtain ⟨p3, hpp3⟩ : ∃ p, M3.length = p + 1 := ⟨M3.length - 1, by omega⟩; obtain ⟨n3, hn3⟩ : ∃ n, n = M3.length := ⟨_, rfl⟩; rw [← hn3] at F3 hcp3 hl3 hpp3 hp3 ⊢; have HF3 := Lib.hid F3; have HN3 := Lib.hid (And.intro hn3 (And.intro hl3 hpp3)); have hnp3 : (n3 : Int) - 1 = (p3 : Int) := (by omega); have hpc3 : p3 ≤ c3 := (by omega); have hpd3 : (p3 : Int) ≤ (c3 : Int) := (by omega); have hpe3 : (0 : Int) ≤ (p3 : Int) := (by omega); have hpf3 : p3 ≤ n3 := (by omega); have hpg3 : p3 ≤ 64 := (by have := HLen.out; have := HQL.out; omega); have hn643 : (n3 : Int) ≤ 64 := (by have := HLen.out; have := HQL.out; omega); clear hn3 F3 hl3 hpp3 hp3) | (go_at_call 163; (with_reducible refine (spec_l06Chain (.slice ab len cb) Q _ (HQa.out _ mC) (by have := HQL.out; omega)).mono ?_); rintro e w4 ⟨v4, M4, rfl, hb4, F4, hl4, hp4⟩; have hp4 := hp4 (by have := HLen.out; have := HQL.out; omega); obtain ⟨g4, c4, e4, -, -⟩ := own_form8 (n := M4.length) F4.1 hp4; subst e4; have hcp4 : M4.length ≤ c4 := (by obtain ⟨_, _, h0, k1, _⟩ := slRd_at F4.at; cases h0; exact k1); obtain ⟨p4, hpp4⟩ : ∃ p, M4.length = p + 1 := ⟨M4.length - 1, by omega⟩; obtain ⟨n4, hn4⟩ : ∃ n, n = M4.length := ⟨_, rfl⟩; rw [← hn4] at F4 hcp4 hl4 hpp4 hp4 ⊢; have HF4 := Lib.hid F4; have HN4 := Lib.hid (And.intro hn4 (And.intro hl4 hpp4)); have hnp4 : (n4 : Int) - 1 = (p4 : Int) := (by omega); have hpc4 : p4 ≤ c4 := (by omega); have hpd4 : (p4 : Int) ≤ (c4 : Int) := (by omega); have hpe4 : (0 : Int) ≤ (p4 : Int) := (by omega); have hpf4 : p4 ≤ n4 := (by omega); have hpg4 : p4 ≤ 64 := (by have := HLen.out; have := HQL.out; omega); have hn644 : (n4 : Int) ≤ 64 := (by have := HLen.out; have := HQL.out; omega); clear hn4 F4 hl4 hpp4 hp4) | (at_builtin; (repeat rw [drew_alloc]); go_loud (refine wpList_appAll fVec _ rfl _ _ 23 rfl (w4.heap.size) 42 i0 (.agg #[.int .i64 0, .int .i64 0]) 16 Try.underlying23 hi hz0 hz1 hz2 rfl (by decide) rfl (own_litN (N := w4.heap.size) (by first | rfl | simp) (Nat.le_refl _)) (More.refl _) (m := M3.take p3) rfl (Ty.at_more (sl_take HF3.out.at hpf3) mC) (Lib.hid (by rw [List.length_take]; simp only [List.length_nil]; omega)) (by decide) (Lib.hid (More.size (show More w4 _ from mC))) ?_)))
            intro v5 w5 hl5 hm5
            have HL5 : Hid (FlatOwn fVec w4.heap.size 42 w5 v5 (M3.take p3)) := Lib.hid (by simpa using hl5)
            have hmw5 : More w4 w5 := hm5 w4 rfl mC
            have HB5 : Hid (w4.heap.size ≤ w5.heap.size) := Lib.hid hmw5.size
            clear hl5 hm5
            go_wp2_with (at_builtin; (repeat rw [drew_alloc]); go_loud (refine wpList_appAll fVec w5 rfl _ _ 23 rfl (w4.heap.size) 42 i0 (.agg #[.int .i64 0, .int .i64 0]) 16 Try.underlying23 hi hz0 hz1 hz2 rfl (by decide) rfl HL5.out mC (m := M4.take p4) rfl (Ty.at_more (sl_take HF4.out.at hpf4) mC) (Lib.hid (by rw [List.length_take, List.length_take]; omega)) (by decide) HB5 ?_))
            intro v6 w6 hl6 hm6
            have hmw6 : More w4 w6 := hm6 w4 rfl mC
            have hmw4 : More w w4 := More.trans HMW.out (More.trans HM2.out (show More wr w4 from mC))
            go_wp2_with fail
            go_ret
            first | exact ⟨_, _, rfl, More.trans hmw4 hmw6, hl6.low hmw4.size, by have h1 := HN3.out; have h2 := HN4.out; have h3 := HLen.out; rw [List.length_append, List.length_take, List.length_take]; omega⟩ | exact ⟨_, rfl, More.trans hmw4 hmw6, _, hl6.low hmw4.size, by have h1 := HN3.out; have h2 := HN4.out; have h3 := HLen.out; rw [List.length_append, List.length_take, List.length_take]; omega⟩
          · obtain ⟨p, rfl⟩ : ∃ p, q = p + 1 := ⟨q - 1, by omega⟩
            rw [show ((p + 1 : Nat) : Int) - 1 = (p : Int) by omega]
            obtain ⟨b1, o1, x1, y1, e1, hb1, -, ox, oy, p0, p1⟩ := vec_el HL.out.at (k := p) (by rw [← HLen.out]; omega)
            cases e1
            rw [Nat.zero_add] at p0 p1
            have c0' := ((bcell hm2).1 _ _ hb1).trans p0
            have c1' := ((bcell hm2).1 _ _ hb1).trans p1
            have OX := Lib.hid ox; have OY := Lib.hid oy; clear ox oy
            have hp0 : (0 : Int) ≤ (p : Int) := by omega
            have hp1 : (p : Int) < (len : Int) := by omega
            go_wp2_with (at_builtin; (repeat rw [drew_alloc]); go_loud (refine wpList_pushFlat fVec wr rfl _ _ 23 rfl (_) 42 i0 (.agg #[.int .i64 0, .int .i64 0]) 16 Try.underlying23 hi hz0 hz1 hz2 rfl (by decide) rfl HQ.out mC rfl (by simp) (y := (x1, y1)) rfl ⟨OX.out, OY.out⟩ (Lib.hid (by omega)) (by decide) HBs ?_))
            intro v4 w4 hl4 hm4
            have hmw4 := hm4 _ rfl (More.trans HM2.out mC)
            go_wp2_with fail
            go_roundw
            case rel => exact ⟨p, Q ++ [(x1, y1)], rfl, by omega, by rw [List.length_append]; simp only [List.length_singleton]; omega, hmw4, Lib.hid hl4⟩
            case measure => simp [intOf]
end Go.Proofs.Ytbbibfeblaocfaa
