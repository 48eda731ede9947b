/- Hulls of few points: the reference's HullOf gives a list in new memory; the polygon that is drawn is one. -/
import Derived.Test.YtbbibfeblaocfaaCur
import Derived.Test.YtbbibfeblaocfaaApp
import Derived.Test.YtbbibfeblaocfaaPoly
import Derived.Test.YtbbibfeblaocfaaTurn
import Derived.Test.YtbbibfeblaocfaaMan
import Derived.Deep.RegionHeld3
import Derived.Deep.QuietTactic
namespace Go.Proofs.Ytbbibfeblaocfaa
open Go.RowKit
theorem sl_drop {α : Type} {S : Ty α} {w : World} {b off n cap : Nat} {l : List α} (h : (tSlice S).at w [.slice (some ⟨b, off, none⟩) n cap] l) {k : Nat} (hk : k ≤ n) {off' : Nat} (ho : off' = off + k * S.size ∨ cap = k) :
    (tSlice S).at w [.slice (some ⟨b, off', none⟩) (n - k) (cap - k)] (l.drop k) := by
  obtain ⟨ao', cap', h0, k1, k2, k3, k4⟩ := slRd_at h
  simp at h0
  obtain ⟨rfl, rfl, rfl⟩ := h0
  refine ⟨_, _, by rw [List.length_drop], by rw [List.length_drop]; omega, by omega, (fun e => by cases e), fun h0 => ?_⟩
  rw [List.length_drop] at h0
  obtain ⟨b', o', e, hp, hb, he⟩ := k4 (by omega)
  cases e
  refine ⟨b, off', rfl, hp, hb, fun j x hx => ?_⟩
  rw [List.getElem?_drop] at hx
  obtain ⟨c, hc, hv⟩ := he (k + j) x hx
  refine ⟨c, hc, fun i v hi => ?_⟩
  have := hv i v hi
  rcases ho with rfl | h9
  rotate_left
  · omega
  rw [Nat.add_assoc off, ← Nat.add_mul]
  exact this
theorem FlatOwn.take {α : Type} {S : Ty α} {F : Flat S} {B : Nat} {e : TypeId} {w : World} {a : Option Addr} {n cap : Nat} {l : List α} (h : FlatOwn F B e w (.slice a n cap) l) (hF : ∀ x ∈ l, (F.enc x).length = S.size) {m : Nat} (hm : m ≤ n) (h0 : 0 < n) : FlatOwn F B e w (.slice a m cap) (l.take m) := by
  have hn : n = l.length := by obtain ⟨_, _, e9⟩ := h.len; cases e9; rfl
  obtain ⟨⟨h1, h2⟩, h3⟩ := h
  refine ⟨⟨length_flatMap_chunk _ (fun y hy => hF y (List.mem_of_mem_take hy)), ?_⟩, fun x hx => h3 x (List.mem_of_mem_take hx)⟩
  rcases h2 with ⟨e1, e2⟩ | ⟨g, cap', cur, e1, q1, q2, q3, q4, q5, q6⟩
  · omega
  · cases e1
    rw [List.length_take, Nat.min_eq_left (by omega)]
    refine .inr ⟨g, cap, cur, rfl, q1, q2, by omega, q4, q5, ?_⟩
    have e7 : l.flatMap F.enc = (l.take m).flatMap F.enc ++ (l.drop m).flatMap F.enc := by rw [← List.flatMap_append, List.take_append_drop]
    have e8 : ((l.take m).flatMap F.enc).length = m * S.size := by
      rw [length_flatMap_chunk _ (fun y hy => hF y (List.mem_of_mem_take hy)), List.length_take, Nat.min_eq_left (by omega)]
    have e9 := congrArg (List.take (m * S.size)) q6
    rw [List.take_take, Nat.min_eq_left (Nat.mul_le_mul_right _ (by omega)), e7, List.take_left' e8] at e9
    exact e9
theorem drew_alloc (w : World) (o : Obj) : (w.alloc o).drew = w.drew.alloc o := rfl
theorem vec_encL (l : List QV) : ∀ x ∈ l, (fVec.enc x).length = tVec.size := fun _ _ => rfl
def lenV : Value → Nat
  | .slice _ n _ => n
  | _ => 0
def lessF (a b : QV) : Bool := decide (a.1 < b.1) || (decide (a.1 = b.1) && decide (a.2 < b.2))
set_option maxHeartbeats 1600000 in
theorem spec_l06Less (a1 a2 b1 b2 : Int) (w : World) :
    Calls Try.prog 162 #[.agg #[.int .i64 a1, .int .i64 a2], .agg #[.int .i64 b1, .int .i64 b2]] w fun e w' => e = .returned (.bool (lessF (a1, a2) (b1, b2))) ∧ More w w' := by
  unfold lessF
  by_cases h1 : a1 < b1
  · go_enter Try.func162, Try.ntmps162
    go_wp2_with fail
    go_ret
    exact ⟨ret_bool (by simp [h1]), mC⟩
  · rcases Bool.eq_false_or_eq_true (a1 == b1) with h2 | h2
    · by_cases h3 : a2 < b2
      · go_enter Try.func162, Try.ntmps162
        go_wp2_with fail
        go_ret
        exact ⟨ret_bool (by have := eq_of_beq h2; simp [this]; first | done | omega), mC⟩
      · go_enter Try.func162, Try.ntmps162
        go_wp2_with fail
        go_ret
        exact ⟨ret_bool (by have := eq_of_beq h2; simp [this]; omega), mC⟩
    · go_enter Try.func162, Try.ntmps162
      go_wp2_with fail
      go_ret
      exact ⟨ret_bool (by have : a1 ≠ b1 := by simpa using h2
                          simp [h1, this]), mC⟩
set_option maxRecDepth 4000 in
set_option maxHeartbeats 6400000 in
theorem spec_l06Chain (v : Value) (l : List QV) (w : World) (hv : tVecs.at w [v] l) (hl : l.length ≤ 1024) :
    Calls Try.prog 163 #[v] w fun e w' => ∃ v' M, e = .returned v' ∧ More w w' ∧ FlatOwn fVec w.heap.size 42 w' v' M ∧ M.length ≤ l.length ∧ (0 < l.length → 0 < M.length) := by
  obtain ⟨i0, hi, hz0, hz1, hz2⟩ := info_parts infoVec
  obtain ⟨ao, cap, rfl⟩ := sl_len hv
  have HV := Lib.hid hv; clear hv
  obtain ⟨n, hn⟩ : ∃ n, n = l.length := ⟨_, rfl⟩
  rw [← hn] at HV hl ⊢
  have HN := Lib.hid hn; clear hn
  go_enter Try.func163, Try.ntmps163
  go_wp2_with fail
  go_loopw [3, 9] (fun vo vi wr => ∃ (k : Nat) (M : List QV), vi = .int .i64 k ∧ k ≤ n ∧ More w wr ∧ M.length ≤ k ∧ (0 < k → 0 < M.length) ∧ Hid (FlatOwn fVec w.heap.size 42 wr vo M)) (fun _ vi _ => n - (intOf vi).toNat)
  case atStart => exact ⟨0, [], rfl, Nat.zero_le _, mC, Nat.le_refl _, (fun h => by omega), Lib.hid (FlatOwn.lit (Nat.le_refl _))⟩
  case round =>
    obtain ⟨k, M, rfl, hk, hm, hM, hM0, HL⟩ := hrel
    have HMW := Lib.hid hm
    by_cases hlt : k < n
    · obtain ⟨b, off, x, y, rfl, hblt, hx, ox, oy, c0, c1⟩ := vec_el (Ty.at_more HV.out hm) (k := k) (by rw [← HN.out]; exact hlt)
      have OX := Lib.hid ox; have OY := Lib.hid oy; clear hx ox oy
      have hi0 : (0 : Int) ≤ (k : Int) := by omega
      have hi1 : (k : Int) < (n : Int) := by omega
      go_wp2_with fail
      go_loopw [3] (fun vo wr2 => ∃ M : List QV, M.length ≤ k ∧ wr.heap.size < wr2.heap.size ∧ wr2.cell? ⟨wr.heap.size, 0, none⟩ = some (.int .i64 x) ∧ wr2.cell? ⟨wr.heap.size, 1, none⟩ = some (.int .i64 y) ∧ More w wr2 ∧ Hid (FlatOwn fVec w.heap.size 42 wr2 vo M)) (fun vo _ => lenV vo)
      case atStart => exact ⟨M, hM, by simp, box_new rfl (More.refl _) 0, box_new rfl (More.refl _) 1, mC, Lib.hid (HL.out.more mC)⟩
      case round =>
        clear HMW
        obtain ⟨M2, hM2, hgl, cx, cy, hm2, HL2⟩ := hrel
        have HMW := Lib.hid hm2
        obtain ⟨a2, c2, rfl⟩ := HL2.out.len
        have HB_ : Hid (w.heap.size ≤ wr.heap.size) := Lib.hid hm2.size
        by_cases hln : M2.length ≤ 1
        · have hg1 : decide ((1 : Int) < (M2.length : Int)) = false := decide_eq_false (by omega)
          go_wp2_with fail
          refine wp_region_held_drew (S := (fun w' => More wr w')) (by kernel_rfl) ?_ (fun hHeld => ?_)
          · first | exact More.refl _ | exact mC
          refine tk (v := ?_) 0 ⟨some 13, _, _, _, _, _⟩ rfl ?_ ?_
          rotate_left 2
          · (intro w hSw; (try dsimp only at hSw); go_simp; (try with_reducible rfl))
          (try simp only [Act.put, List.setIfInBounds_toArray, List.set_cons_zero, List.set_cons_succ])
          refine tk (v := ?_) 1 ⟨some 14, _, _, _, _, _⟩ rfl ?_ ?_
          rotate_left 2
          · (intro w hSw; (try dsimp only at hSw); go_simp; (try with_reducible rfl))
          (try simp only [Act.put, List.setIfInBounds_toArray, List.set_cons_zero, List.set_cons_succ])
          refine tk (v := ?_) 2 ⟨some 15, _, _, _, _, _⟩ rfl ?_ ?_
          rotate_left 2
          · (intro w hSw; (try dsimp only at hSw); go_simp; (try with_reducible rfl))
          (try simp only [Act.put, List.setIfInBounds_toArray, List.set_cons_zero, List.set_cons_succ])
          refine tk (v := ?_) 3 ⟨some 16, _, _, _, _, _⟩ rfl ?_ ?_
          rotate_left 2
          · (intro w hSw; (try dsimp only at hSw); go_simp; (try with_reducible rfl))
          (try simp only [Act.put, List.setIfInBounds_toArray, List.set_cons_zero, List.set_cons_succ])
          refine tk0 4 ⟨some 17, _, _, _, _, _⟩ rfl ?_
          (try simp only [Act.put, List.setIfInBounds_toArray, List.set_cons_zero, List.set_cons_succ])
          refine tk0 5 ⟨some 18, _, _, _, _, _⟩ rfl ?_
          (try simp only [Act.put, List.setIfInBounds_toArray, List.set_cons_zero, List.set_cons_succ])
          refine tk0 6 ⟨some 19, _, _, _, _, _⟩ rfl ?_
          (try simp only [Act.put, List.setIfInBounds_toArray, List.set_cons_zero, List.set_cons_succ])
          refine tk0 7 ⟨some 20, _, _, _, _, _⟩ rfl ?_
          (try simp only [Act.put, List.setIfInBounds_toArray, List.set_cons_zero, List.set_cons_succ])
          refine tk0 8 ⟨some 21, _, _, _, _, _⟩ rfl ?_
          (try simp only [Act.put, List.setIfInBounds_toArray, List.set_cons_zero, List.set_cons_succ])
          refine tk0 9 ⟨some 22, _, _, _, _, _⟩ rfl ?_
          (try simp only [Act.put, List.setIfInBounds_toArray, List.set_cons_zero, List.set_cons_succ])
          refine tk0 10 ⟨some 23, _, _, _, _, _⟩ rfl ?_
          (try simp only [Act.put, List.setIfInBounds_toArray, List.set_cons_zero, List.set_cons_succ])
          refine tk0 11 ⟨some 24, _, _, _, _, _⟩ rfl ?_
          (try simp only [Act.put, List.setIfInBounds_toArray, List.set_cons_zero, List.set_cons_succ])
          refine tk0 12 ⟨some 25, _, _, _, _, _⟩ rfl ?_
          (try simp only [Act.put, List.setIfInBounds_toArray, List.set_cons_zero, List.set_cons_succ])
          refine tk0 13 ⟨some 26, _, _, _, _, _⟩ rfl ?_
          (try simp only [Act.put, List.setIfInBounds_toArray, List.set_cons_zero, List.set_cons_succ])
          refine tk0 14 ⟨some 27, _, _, _, _, _⟩ rfl ?_
          (try simp only [Act.put, List.setIfInBounds_toArray, List.set_cons_zero, List.set_cons_succ])
          refine tk0 15 ⟨some 28, _, _, _, _, _⟩ rfl ?_
          (try simp only [Act.put, List.setIfInBounds_toArray, List.set_cons_zero, List.set_cons_succ])
          refine tk0 16 ⟨some 29, _, _, _, _, _⟩ rfl ?_
          (try simp only [Act.put, List.setIfInBounds_toArray, List.set_cons_zero, List.set_cons_succ])
          refine tk0 17 ⟨some 30, _, _, _, _, _⟩ rfl ?_
          (try simp only [Act.put, List.setIfInBounds_toArray, List.set_cons_zero, List.set_cons_succ])
          refine tk0 18 ⟨some 31, _, _, _, _, _⟩ rfl ?_
          (try simp only [Act.put, List.setIfInBounds_toArray, List.set_cons_zero, List.set_cons_succ])
          refine tk (v := ?_) 19 ⟨some 32, _, _, _, _, _⟩ rfl ?_ ?_
          rotate_left 2
          · (intro w hSw; (try dsimp only at hSw); go_simp; (try with_reducible rfl))
          (try simp only [Act.put, List.setIfInBounds_toArray, List.set_cons_zero, List.set_cons_succ])
          refine wpAnyH_done (by kernel_rfl) ?_ _
          go_wp2_with (at_builtin; (try rw [drew_alloc]); go_loud (refine wpList_pushFlat fVec wr rfl _ _ 23 rfl (w.heap.size) 42 i0 (.agg #[.int .i64 0, .int .i64 0]) 16 Try.underlying23 hi hz0 hz1 hz2 rfl (by decide) rfl HL2.out mC rfl (by simp) (y := (x, y)) rfl ⟨OX.out, OY.out⟩ (Lib.hid (by omega)) (by decide) HB_ ?_))
          intro v4 w4 hl4 hm4
          go_wp2_with fail
          go_roundw
          case rel => exact ⟨k + 1, M2 ++ [(x, y)], by go_num, by omega, hm4 _ rfl (More.trans HMW.out mC), by rw [List.length_append]; simp only [List.length_singleton]; omega, fun _ => by rw [List.length_append]; simp, Lib.hid hl4⟩
          case measure => simp [intOf]; omega
        · obtain ⟨j, hj⟩ : ∃ j, M2.length = j + 2 := ⟨M2.length - 2, by omega⟩
          obtain ⟨b1, o1, x1, y1, e1, hb1, -, -, -, p0, p1⟩ := vec_el HL2.out.at (k := j) (by omega)
          subst e1
          obtain ⟨b2, o2, x2, y2, e2, hb2, -, -, -, p2, p3⟩ := vec_el HL2.out.at (k := j + 1) (by omega)
          cases e2
          have hcap : M2.length ≤ c2 := by
            obtain ⟨ao', cap', h0, k1, _⟩ := slRd_at HL2.out.at
            cases h0
            exact k1
          obtain ⟨n2, hn2⟩ : ∃ n2, n2 = M2.length := ⟨_, rfl⟩
          rw [← hn2] at HL2 hcap ⊢
          have hM3 : n2 ≤ k := by omega
          have hn3 : n2 = j + 2 := by omega
          have HJ := Lib.hid hn2
          obtain ⟨i, hij⟩ : ∃ i, i = j + 1 := ⟨_, rfl⟩
          rw [← hij] at p2 p3
          have hg1 : (1 : Int) < (n2 : Int) := by omega
          have hj0 : (0 : Int) ≤ (j : Int) := by omega
          have hj1 : (j : Int) < (n2 : Int) := by omega
          have hj2 : (i : Int) < (n2 : Int) := by omega
          have hj3 : (0 : Int) ≤ (i : Int) := by omega
          have hj4 : (i : Int) ≤ (c2 : Int) := by omega
          have hw1 : IntKind.i64.wrap ((n2 : Int) - 2) = (j : Int) := by rw [IntWalk.i64_in _ (by omega)]; omega
          have hw2 : IntKind.i64.wrap ((n2 : Int) - 1) = (i : Int) := by rw [IntWalk.i64_in _ (by omega)]; omega
          have HIJ := Lib.hid (And.intro hij hn3)
          clear hj hM2 hn2 hn3 hij
          have E := fun (w' : World) (h : More wr w') => And.intro (((bcell h).1 _ _ hb1).trans p0) (And.intro (((bcell h).1 _ _ hb1).trans p1) (And.intro (((bcell h).1 _ _ hb1).trans p2) (And.intro (((bcell h).1 _ _ hb1).trans p3) (And.intro (((bcell h).1 _ _ hgl).trans cx) (((bcell h).1 _ _ hgl).trans cy)))))
          obtain ⟨tv, htv⟩ : ∃ tv, tv = turnF (x1, y1) (x2, y2) (x, y) := ⟨_, rfl⟩
          have HTV := Lib.hid htv; clear htv
          by_cases ht : tv ≤ 0
          · go_wp2_with fail
            go_region_held3 (fun w' => More wr w') (first | exact More.refl _ | exact mC) (first | (go_at_call 164; refine (spec_Turn x1 y1 x2 y2 x y _).mono ?_; rintro e w1 ⟨rfl, hb1_⟩; rw [← HTV.out]))
            all_goals
              have hw3 : (n2 : Int) - 1 = (i : Int) := by have := HIJ.out; omega
              go_wp2_with fail
              go_roundw
              case rel => exact ⟨M2.take i, by rw [List.length_take, ← HJ.out]; omega, Nat.lt_of_lt_of_le hgl (More.size mC), (E _ mC).2.2.2.2.1, (E _ mC).2.2.2.2.2, More.trans HMW.out mC, Lib.hid ((HL2.out.more mC).take (vec_encL _) (by omega) (by omega))⟩
              case measure => have := HIJ.out; simp only [lenV]; omega
          · go_wp2_with fail
            go_region_held3 (fun w' => More wr w') (first | exact More.refl _ | exact mC) (first | (go_at_call 164; refine (spec_Turn x1 y1 x2 y2 x y _).mono ?_; rintro e w1 ⟨rfl, hb1_⟩; rw [← HTV.out]))
            all_goals
              have hM9 := HJ.out
              go_wp2_with (at_builtin; (try rw [drew_alloc]); go_loud (refine wpList_pushFlat fVec wr rfl _ _ 23 rfl (w.heap.size) 42 i0 (.agg #[.int .i64 0, .int .i64 0]) 16 Try.underlying23 hi hz0 hz1 hz2 rfl (by decide) rfl HL2.out mC rfl (by simp) (y := (x, y)) rfl ⟨OX.out, OY.out⟩ (Lib.hid (by omega)) (by decide) HB_ ?_))
              intro v4 w4 hl4 hm4
              go_wp2_with fail
              go_roundw
              case rel => exact ⟨k + 1, M2 ++ [(x, y)], by go_num, by omega, hm4 _ rfl (More.trans HMW.out mC), by rw [List.length_append]; simp only [List.length_singleton]; omega, fun _ => by rw [List.length_append]; simp, Lib.hid hl4⟩
              case measure => simp [intOf]; omega
    · go_wp2_with fail
      go_ret
      obtain rfl : k = n := by omega
      exact ⟨_, M, rfl, HMW.out, HL.out, hM, hM0⟩
end Go.Proofs.Ytbbibfeblaocfaa
