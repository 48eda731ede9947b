/- Squares of the steps of a path. -/
import Derived.Test.YtkhcblheekfdmaaSqd
import Derived.Test.YtkhcblheekfdmaaStp
namespace Go.Proofs.Ytkhcblheekfdmaa
open Go.RowKit
noncomputable def sqL : List QP → List QR
  | p :: q :: r => encR (sqF p q) :: sqL (q :: r)
  | _ => []
theorem sqL_get : ∀ (l : List QP) (k : Nat) (x y : QP), l[k]? = some x → l[k + 1]? = some y → (sqL l)[k]? = some (encR (sqF x y))
  | [], _, _, _, h, _ => by simp at h
  | [_], 0, _, _, _, h => by simp at h
  | [_], _ + 1, _, _, h, _ => by simp at h
  | p :: q :: r, 0, x, y, h, h' => by
    simp only [List.getElem?_cons_zero, Option.some.injEq] at h
    simp only [Nat.zero_add, List.getElem?_cons_succ, List.getElem?_cons_zero, Option.some.injEq] at h'
    subst h; subst h'
    rfl
  | p :: q :: r, k + 1, x, y, h, h' => by
    have := sqL_get (q :: r) k x y (by simpa using h) (by simpa using h')
    simpa [sqL] using this
theorem sqL_len : ∀ l : List QP, (sqL l).length = l.length - 1
  | [] => rfl
  | [_] => rfl
  | p :: q :: r => by
    have := sqL_len (q :: r)
    simp only [sqL, List.length_cons] at this ⊢
    omega
theorem take_next {α : Type} {l : List α} {k : Nat} {x : α} (h : l[k]? = some x) : l.take k ++ [x] = l.take (k + 1) := by rw [List.take_add_one, h]; rfl
theorem infoRat : (Try.prog.info? 32).map (fun i => (i.zero, i.size, i.bytes)) = some (some (.agg #[.bool false, .slice none 0 0, .slice none 0 0]), 3, 56) := by kernel_rfl
set_option maxRecDepth 4000 in
set_option maxHeartbeats 6400000 in
theorem impl_PathSquares (v : Value) (l : List QP) (w : World) (hv : tPointS.at w [v] l) (hl : wPointS l ≤ 1048576) :
    Calls Try.prog 69 #[v] w fun e w' => ∃ v', e = .returned v' ∧ More w w' ∧ tRatS.fresh w.heap.size w' [v'] (sqL l) := by
  obtain ⟨ao, cap, rfl⟩ := sl_len hv
  have HV := Lib.hid hv; clear hv
  have hl0 : l.length ≤ 1048576 ∧ ∀ x ∈ l, wPoint x ≤ 1048576 := ⟨by unfold wPointS at hl; omega, fun x hx => by
    obtain ⟨i, hi, rfl⟩ := List.getElem_of_mem hx
    have := wsum_el (f := wPoint) (List.getElem?_eq_getElem hi)
    unfold wPointS at hl
    omega⟩
  have HL := Lib.hid hl0
  have hl' := hl0.1
  clear hl hl0
  obtain ⟨n, hn⟩ : ∃ n, n = l.length := ⟨_, rfl⟩
  rw [← hn] at HV hl' ⊢
  have HN := Lib.hid hn; clear hn
  obtain ⟨i0, hi, hz0, hz1, hz2⟩ := info_parts infoRat
  go_enter Try.func69, Try.ntmps69
  go_wp2_with fail
  go_loopw [3, 4] (fun v i wr => ∃ k : Nat, k ≤ n ∧ i = .int .i64 ((k : Int) + 1) ∧ More w wr ∧ Hid (ListOwn tRat w.heap.size 32 wr v ((sqL l).take k))) (fun _ i _ => n + 1 - (intOf i).toNat)
  case atStart => exact ⟨0, Nat.zero_le _, rfl, mC, Lib.hid (ListOwn.lit (Nat.le_refl _))⟩
  case round =>
    obtain ⟨k, hk, rfl, hm, HO⟩ := hrel
    by_cases hlt : k + 1 < n
    · have hlt' : (k : Int) + 1 < (n : Int) := by omega
      have hlt0 : (k : Int) < (n : Int) := by omega
      obtain ⟨b, off, x, xa1, xn1, xc1, xa2, xn2, xc2, xa4, xn4, xc4, xa5, xn5, xc5, rfl, hblt, hx, hat, p0, p1, p2, p3, p4, p5⟩ := el_Point HV.out (k := k) (by rw [← HN.out]; omega)
      obtain ⟨b', off', y, ya1, yn1, yc1, ya2, yn2, yc2, ya4, yn4, yc4, ya5, yn5, yc5, e9, -, hy, hat', q0, q1, q2, q3, q4, q5⟩ := el_Point HV.out (k := k + 1) (by rw [← HN.out]; omega)
      cases e9
      have hi0 : (0 : Int) ≤ (k : Int) := by omega
      have hi2 : (0 : Int) ≤ (k : Int) + 1 := by omega
      have g6 : IntKind.i64.wrap (↑k + 1 - 1) = (↑k : Int) := by rw [IntKind.wrap_i64]; omega
      have g13 : IntKind.i64.wrap (↑k : Int) = ↑k := by rw [IntKind.wrap_i64]; omega
      have g14 : IntKind.i64.wrap (↑k + 1 : Int) = ↑k + 1 := by rw [IntKind.wrap_i64]; omega
      have HX := Lib.hid hx; have HY := Lib.hid hy; have HA := Lib.hid hat; have HA' := Lib.hid hat'; clear hx hy hat hat'
      have WX := Lib.hid (HL.out.2 x (List.mem_of_getElem? HX.out)); have WY := Lib.hid (HL.out.2 y (List.mem_of_getElem? HY.out))
      have C0 : ∀ w', More w w' → w'.cell? ⟨b, off + k * 6, none⟩ = some (.bool x.1.1.1) := fun w' h => ((bcell h).1 _ _ hblt).trans p0
      have C1 : ∀ w', More w w' → w'.cell? ⟨b, off + k * 6 + 1, none⟩ = some (.slice xa1 xn1 xc1) := fun w' h => ((bcell h).1 _ _ hblt).trans p1
      have C2 : ∀ w', More w w' → w'.cell? ⟨b, off + k * 6 + 2, none⟩ = some (.slice xa2 xn2 xc2) := fun w' h => ((bcell h).1 _ _ hblt).trans p2
      have C3 : ∀ w', More w w' → w'.cell? ⟨b, off + k * 6 + 3, none⟩ = some (.bool x.2.1.1) := fun w' h => ((bcell h).1 _ _ hblt).trans p3
      have C4 : ∀ w', More w w' → w'.cell? ⟨b, off + k * 6 + 4, none⟩ = some (.slice xa4 xn4 xc4) := fun w' h => ((bcell h).1 _ _ hblt).trans p4
      have C5 : ∀ w', More w w' → w'.cell? ⟨b, off + k * 6 + 5, none⟩ = some (.slice xa5 xn5 xc5) := fun w' h => ((bcell h).1 _ _ hblt).trans p5
      have D0 : ∀ w', More w w' → w'.cell? ⟨b, off + (k + 1) * 6, none⟩ = some (.bool y.1.1.1) := fun w' h => ((bcell h).1 _ _ hblt).trans q0
      have D1 : ∀ w', More w w' → w'.cell? ⟨b, off + (k + 1) * 6 + 1, none⟩ = some (.slice ya1 yn1 yc1) := fun w' h => ((bcell h).1 _ _ hblt).trans q1
      have D2 : ∀ w', More w w' → w'.cell? ⟨b, off + (k + 1) * 6 + 2, none⟩ = some (.slice ya2 yn2 yc2) := fun w' h => ((bcell h).1 _ _ hblt).trans q2
      have D3 : ∀ w', More w w' → w'.cell? ⟨b, off + (k + 1) * 6 + 3, none⟩ = some (.bool y.2.1.1) := fun w' h => ((bcell h).1 _ _ hblt).trans q3
      have D4 : ∀ w', More w w' → w'.cell? ⟨b, off + (k + 1) * 6 + 4, none⟩ = some (.slice ya4 yn4 yc4) := fun w' h => ((bcell h).1 _ _ hblt).trans q4
      have D5 : ∀ w', More w w' → w'.cell? ⟨b, off + (k + 1) * 6 + 5, none⟩ = some (.slice ya5 yn5 yc5) := fun w' h => ((bcell h).1 _ _ hblt).trans q5
      have hlen : ((sqL l).take k).length ≤ 2097152 := by rw [List.length_take, sqL_len, ← HN.out]; omega
      have HLen := Lib.hid hlen; clear hlen
      go_wp2_with fail
      go_region_held3 (fun w' => More w w') (first | exact hm | exact mC | exact hw2) (first | (go_at_call 127; (with_reducible refine (impl_SquareDistanceL [.bool x.1.1.1, .slice xa1 xn1 xc1, .slice xa2 xn2 xc2, .bool x.2.1.1, .slice xa4 xn4 xc4, .slice xa5 xn5 xc5] [.bool y.1.1.1, .slice ya1 yn1 yc1, .slice ya2 yn2 yc2, .bool y.2.1.1, .slice ya4 yn4 yc4, .slice ya5 yn5 yc5] x y _ (Ty.at_more HA.out mC) WX.out (Ty.at_more HA'.out mC) WY.out).mono ?_); rintro e w1 ⟨cs, rfl, hb1, g1⟩; obtain ⟨ra, rn, rc, rd, rm, re, rfl⟩ := sh_Rat (Ty.fresh_at g1); have G1 := Lib.hid g1; clear g1) | (refine step_pushOwn tRat wr rfl _ _ 57 rfl w.heap.size 32 i0 (.agg #[.bool false, .slice none 0 0, .slice none 0 0]) 56 Try.underlying57 hi hz0 hz1 hz2 rfl (by decide) rfl HO.out mC rfl (by simp) (Ty.fresh_mono G1.out (by simp)) HLen (by decide) (Lib.hid hm.size) ?_; intro v' w2 hl2 hmw; have hw2 : More w w2 := hmw _ rfl mC; have HL2 := Lib.hid hl2; clear hl2 hmw))
      all_goals
        go_wp2_with fail
        go_roundw
        case rel => exact ⟨k + 1, by omega, by go_num, hw2, Lib.hid (by rw [← take_next (sqL_get l k x y HX.out HY.out)]; exact HL2.out)⟩
        case measure => simp [intOf]; omega
    · have hlt' : ¬ (k : Int) + 1 < (n : Int) := by omega
      go_wp2_with fail
      go_ret
      exact ⟨_, rfl, hm, by
        have h1 := HO.out.fresh
        rw [List.take_of_length_le (by rw [sqL_len, ← HN.out]; omega)] at h1
        exact h1⟩
set_option maxRecDepth 4000 in
set_option maxHeartbeats 6400000 in
theorem spec_PathSquares (v : Value) (l : List QP) (w : World) (hv : tPointS.at w [v] l) (hl : wPointS l ≤ 1048576) :
    Calls Try.prog 67 #[v] w fun e w' => ∃ v', e = .returned v' ∧ More w w' ∧ tRatS.fresh w.heap.size w' [v'] (sqL l) := by
  obtain ⟨ao, cap, rfl⟩ := sl_len hv
  have HV := Lib.hid hv; clear hv
  have hl0 : l.length ≤ 1048576 ∧ ∀ x ∈ l, wPoint x ≤ 1048576 := ⟨by unfold wPointS at hl; omega, fun x hx => by
    obtain ⟨i, hi, rfl⟩ := List.getElem_of_mem hx
    have := wsum_el (f := wPoint) (List.getElem?_eq_getElem hi)
    unfold wPointS at hl
    omega⟩
  have HL := Lib.hid hl0
  have hl' := hl0.1
  clear hl hl0
  obtain ⟨n, hn⟩ : ∃ n, n = l.length := ⟨_, rfl⟩
  rw [← hn] at HV hl' ⊢
  have HN := Lib.hid hn; clear hn
  obtain ⟨i0, hi, hz0, hz1, hz2⟩ := info_parts infoRat
  go_enter Try.func67, Try.ntmps67
  go_wp2_with fail
  go_loopw [3, 4] (fun v i wr => ∃ k : Nat, k ≤ n ∧ i = .int .i64 ((k : Int) + 1) ∧ More w wr ∧ Hid (ListOwn tRat w.heap.size 32 wr v ((sqL l).take k))) (fun _ i _ => n + 1 - (intOf i).toNat)
  case atStart => exact ⟨0, Nat.zero_le _, rfl, mC, Lib.hid (ListOwn.lit (Nat.le_refl _))⟩
  case round =>
    obtain ⟨k, hk, rfl, hm, HO⟩ := hrel
    by_cases hlt : k + 1 < n
    · have hlt' : (k : Int) + 1 < (n : Int) := by omega
      have hlt0 : (k : Int) < (n : Int) := by omega
      obtain ⟨b, off, x, xa1, xn1, xc1, xa2, xn2, xc2, xa4, xn4, xc4, xa5, xn5, xc5, rfl, hblt, hx, hat, p0, p1, p2, p3, p4, p5⟩ := el_Point HV.out (k := k) (by rw [← HN.out]; omega)
      obtain ⟨b', off', y, ya1, yn1, yc1, ya2, yn2, yc2, ya4, yn4, yc4, ya5, yn5, yc5, e9, -, hy, hat', q0, q1, q2, q3, q4, q5⟩ := el_Point HV.out (k := k + 1) (by rw [← HN.out]; omega)
      cases e9
      have hi0 : (0 : Int) ≤ (k : Int) := by omega
      have hi2 : (0 : Int) ≤ (k : Int) + 1 := by omega
      have g6 : IntKind.i64.wrap (↑k + 1 - 1) = (↑k : Int) := by rw [IntKind.wrap_i64]; omega
      have g13 : IntKind.i64.wrap (↑k : Int) = ↑k := by rw [IntKind.wrap_i64]; omega
      have g14 : IntKind.i64.wrap (↑k + 1 : Int) = ↑k + 1 := by rw [IntKind.wrap_i64]; omega
      have HX := Lib.hid hx; have HY := Lib.hid hy; have HA := Lib.hid hat; have HA' := Lib.hid hat'; clear hx hy hat hat'
      have WX := Lib.hid (HL.out.2 x (List.mem_of_getElem? HX.out)); have WY := Lib.hid (HL.out.2 y (List.mem_of_getElem? HY.out))
      have C0 : ∀ w', More w w' → w'.cell? ⟨b, off + k * 6, none⟩ = some (.bool x.1.1.1) := fun w' h => ((bcell h).1 _ _ hblt).trans p0
      have C1 : ∀ w', More w w' → w'.cell? ⟨b, off + k * 6 + 1, none⟩ = some (.slice xa1 xn1 xc1) := fun w' h => ((bcell h).1 _ _ hblt).trans p1
      have C2 : ∀ w', More w w' → w'.cell? ⟨b, off + k * 6 + 2, none⟩ = some (.slice xa2 xn2 xc2) := fun w' h => ((bcell h).1 _ _ hblt).trans p2
      have C3 : ∀ w', More w w' → w'.cell? ⟨b, off + k * 6 + 3, none⟩ = some (.bool x.2.1.1) := fun w' h => ((bcell h).1 _ _ hblt).trans p3
      have C4 : ∀ w', More w w' → w'.cell? ⟨b, off + k * 6 + 4, none⟩ = some (.slice xa4 xn4 xc4) := fun w' h => ((bcell h).1 _ _ hblt).trans p4
      have C5 : ∀ w', More w w' → w'.cell? ⟨b, off + k * 6 + 5, none⟩ = some (.slice xa5 xn5 xc5) := fun w' h => ((bcell h).1 _ _ hblt).trans p5
      have D0 : ∀ w', More w w' → w'.cell? ⟨b, off + (k + 1) * 6, none⟩ = some (.bool y.1.1.1) := fun w' h => ((bcell h).1 _ _ hblt).trans q0
      have D1 : ∀ w', More w w' → w'.cell? ⟨b, off + (k + 1) * 6 + 1, none⟩ = some (.slice ya1 yn1 yc1) := fun w' h => ((bcell h).1 _ _ hblt).trans q1
      have D2 : ∀ w', More w w' → w'.cell? ⟨b, off + (k + 1) * 6 + 2, none⟩ = some (.slice ya2 yn2 yc2) := fun w' h => ((bcell h).1 _ _ hblt).trans q2
      have D3 : ∀ w', More w w' → w'.cell? ⟨b, off + (k + 1) * 6 + 3, none⟩ = some (.bool y.2.1.1) := fun w' h => ((bcell h).1 _ _ hblt).trans q3
      have D4 : ∀ w', More w w' → w'.cell? ⟨b, off + (k + 1) * 6 + 4, none⟩ = some (.slice ya4 yn4 yc4) := fun w' h => ((bcell h).1 _ _ hblt).trans q4
      have D5 : ∀ w', More w w' → w'.cell? ⟨b, off + (k + 1) * 6 + 5, none⟩ = some (.slice ya5 yn5 yc5) := fun w' h => ((bcell h).1 _ _ hblt).trans q5
      have hlen : ((sqL l).take k).length ≤ 2097152 := by rw [List.length_take, sqL_len, ← HN.out]; omega
      have HLen := Lib.hid hlen; clear hlen
      go_wp2_with fail
      go_region_held3 (fun w' => More w w') (first | exact hm | exact mC | exact hw2) (first | (go_at_call 126; (with_reducible refine (spec_SquareDistanceL [.bool x.1.1.1, .slice xa1 xn1 xc1, .slice xa2 xn2 xc2, .bool x.2.1.1, .slice xa4 xn4 xc4, .slice xa5 xn5 xc5] [.bool y.1.1.1, .slice ya1 yn1 yc1, .slice ya2 yn2 yc2, .bool y.2.1.1, .slice ya4 yn4 yc4, .slice ya5 yn5 yc5] x y _ (Ty.at_more HA.out mC) WX.out (Ty.at_more HA'.out mC) WY.out).mono ?_); rintro e w1 ⟨cs, rfl, hb1, g1⟩; obtain ⟨ra, rn, rc, rd, rm, re, rfl⟩ := sh_Rat (Ty.fresh_at g1); have G1 := Lib.hid g1; clear g1) | (refine step_pushOwn tRat wr rfl _ _ 57 rfl w.heap.size 32 i0 (.agg #[.bool false, .slice none 0 0, .slice none 0 0]) 56 Try.underlying57 hi hz0 hz1 hz2 rfl (by decide) rfl HO.out mC rfl (by simp) (Ty.fresh_mono G1.out (by simp)) HLen (by decide) (Lib.hid hm.size) ?_; intro v' w2 hl2 hmw; have hw2 : More w w2 := hmw _ rfl mC; have HL2 := Lib.hid hl2; clear hl2 hmw))
      all_goals
        go_wp2_with fail
        go_roundw
        case rel => exact ⟨k + 1, by omega, by go_num, hw2, Lib.hid (by rw [← take_next (sqL_get l k x y HX.out HY.out)]; exact HL2.out)⟩
        case measure => simp [intOf]; omega
    · have hlt' : ¬ (k : Int) + 1 < (n : Int) := by omega
      go_wp2_with fail
      go_ret
      exact ⟨_, rfl, hm, by
        have h1 := HO.out.fresh
        rw [List.take_of_length_le (by rw [sqL_len, ← HN.out]; omega)] at h1
        exact h1⟩
theorem sqL_w : ∀ l : List QP, wsum wRat (sqL l) ≤ 48 * l.length
  | [] => Nat.zero_le _
  | [_] => Nat.zero_le _
  | p :: q :: r => by
    have h := sqL_w (q :: r)
    have hv : Vd (sqF p q) := frAdd_vd
    have h1 := hv.sm1
    have h2 := hv.sm2
    have h3 : wRat (encR (sqF p q)) ≤ 48 := by
      show (limbs (sqF p q).1.natAbs).length + (limbs (sqF p q).2).length ≤ 48
      omega
    rw [show sqL (p :: q :: r) = encR (sqF p q) :: sqL (q :: r) from rfl]
    unfold wsum at h ⊢
    rw [List.map_cons, List.sum_cons]
    simp only [List.length_cons] at h ⊢
    omega
theorem sqL_el : ∀ (l : List QP), ∀ x ∈ sqL l, wRat x ≤ 1048576
  | [], x, h => by simp [sqL] at h
  | [_], x, h => by simp [sqL] at h
  | p :: q :: r, x, h => by
    rw [show sqL (p :: q :: r) = encR (sqF p q) :: sqL (q :: r) from rfl] at h
    rcases List.mem_cons.1 h with rfl | h
    · exact sqF_len p q
    · exact sqL_el (q :: r) x h
theorem sqL_bd (l : List QP) (h : wPointS l ≤ 1048576) : wRatS (sqL l) ≤ 67108864 ∧ ∀ x ∈ sqL l, wRat x ≤ 1048576 := by
  refine ⟨?_, sqL_el l⟩
  have h1 := sqL_w l
  have h2 := sqL_len l
  unfold wPointS at h
  unfold wRatS
  omega
end Go.Proofs.Ytkhcblheekfdmaa
