/- Contracts of ReachSquare, and FnExactReachSquare: it returns true for every list of vectors. -/
import Derived.Test.YtbbibfeblaocfaaPoly
import Derived.Test.YtbbibfeblaocfaaNeg
namespace Go.Proofs.Ytbbibfeblaocfaa
open Go.RowKit
def sqV (v : QV) : Int := v.1 * v.1 + v.2 * v.2
def maxI (a b : Int) : Int := if a < b then b else a
def reachU (l : List QV) : Int := l.foldl (fun m v => maxI m (sqV v)) 0
noncomputable def reachF (l : List QV) : Int := if isPoly l then reachU l else 0
theorem poly_isV {l : List QV} (h : isPoly l = true) : l.all isV = true := by
  cases h' : l.all isV with
  | true => rfl
  | false => rw [poly_inv h'] at h; cases h
theorem sq_nn (x : Int) : 0 ≤ x * x := by
  rcases Int.le_total 0 x with h | h
  · exact Int.mul_nonneg h h
  · exact Int.mul_nonneg_of_nonpos_of_nonpos h h
theorem sq_bd {v : QV} (h : isV v = true) : (0 ≤ v.1 * v.1 ∧ v.1 * v.1 ≤ 1000000) ∧ 0 ≤ v.2 * v.2 ∧ v.2 * v.2 ≤ 1000000 := by
  obtain ⟨h1, h2⟩ := isV_iff.1 h
  have a := mul_bd (x := v.1) (y := v.1) 1000 1000 h1 h1
  have b := mul_bd (x := v.2) (y := v.2) 1000 1000 h2 h2
  have c : 0 ≤ v.1 * v.1 := sq_nn _
  have d : 0 ≤ v.2 * v.2 := sq_nn _
  omega
theorem foldl_next {α β : Type} {f : β → α → β} {b : β} {l : List α} {k : Nat} {x : α} (hx : l[k]? = some x) : (l.take (k + 1)).foldl f b = f ((l.take k).foldl f b) x := by
  rw [take_next hx, List.foldl_append]
  rfl
theorem maxI_bd {a b c : Int} (h1 : 0 ≤ a) (h2 : a ≤ c) (h3 : b ≤ c) : 0 ≤ maxI a b ∧ maxI a b ≤ c := by
  by_cases h : a < b
  · rw [maxI, if_pos h]; omega
  · rw [maxI, if_neg h]; omega
theorem reach_bd {l : List QV} (h : l.all isV = true) : 0 ≤ reachU l ∧ reachU l ≤ 2000000 := by
  unfold reachU
  have key : ∀ (l : List QV) (m : Int), l.all isV = true → 0 ≤ m → m ≤ 2000000 → 0 ≤ l.foldl (fun m v => maxI m (sqV v)) m ∧ l.foldl (fun m v => maxI m (sqV v)) m ≤ 2000000 := by
    intro l
    induction l with
    | nil => intro m _ h1 h2; exact ⟨h1, h2⟩
    | cons v l ih =>
      intro m hv h1 h2
      rw [List.all_cons, Bool.and_eq_true] at hv
      have := sq_bd hv.1
      have hmx := maxI_bd (a := m) (b := sqV v) (c := 2000000) h1 h2 (by unfold sqV; omega)
      exact ih _ hv.2 hmx.1 hmx.2
  exact key l 0 h (by omega) (by omega)
theorem all_take {α : Type} {p : α → Bool} {l : List α} (h : l.all p = true) (k : Nat) : (l.take k).all p = true := by
  rw [List.all_eq_true] at h ⊢
  exact fun x hx => h x (List.mem_of_mem_take hx)
set_option maxHeartbeats 1600000 in
theorem impl_ReachSquare (v : Value) (l : List QV) (w : World) (hv : tVecs.at w [v] l) (hl : l.length ≤ 1048576) :
    Calls Try.prog 17 #[v] w fun e w' => e = .returned (.int .i64 (reachF l)) ∧ More w w' := by
  have HV0 := Lib.hid hv
  obtain ⟨ao, cap, rfl⟩ := sl_len hv
  have HV := Lib.hid hv; clear hv
  have HL := Lib.hid hl
  obtain ⟨n, hn⟩ : ∃ n, n = l.length := ⟨_, rfl⟩
  rw [← hn] at HV HV0 hl ⊢
  have HN := Lib.hid hn; clear hn
  rcases Bool.eq_false_or_eq_true (isPoly l) with hp | hp
  · have HP := Lib.hid hp
    have HA := Lib.hid (poly_isV hp)
    go_enter Try.func17, Try.ntmps17
    go_wp2_with (go_at_call 14; refine (impl_IsPolygon _ l _ HV0.out HL.out).mono ?_; rintro e w1 ⟨rfl, hb1⟩)
    go_loopw [3, 11] (fun c i wr => ∃ k : Nat, k ≤ n ∧ i = .int .i64 k ∧ More w wr ∧ (∃ q, c = .int .i64 q ∧ Hid (q = reachU (l.take k)) ∧ 0 ≤ q ∧ q ≤ 2000000)) (fun _ i _ => n - (intOf i).toNat)
    case atStart => exact ⟨0, Nat.zero_le _, rfl, mC, 0, rfl, Lib.hid rfl, by omega, by omega⟩
    case round =>
      obtain ⟨k, hk, rfl, hm, q, rfl, HQ, q0, q1⟩ := hrel
      by_cases hlt : k < n
      · obtain ⟨b, off, x, y, rfl, hblt, hx, -, -, c0, c1⟩ := vec_el (Ty.at_more HV.out hm) (k := k) (by rw [← HN.out]; exact hlt)
        have hv : isV (x, y) = true := List.all_eq_true.1 HA.out _ (List.mem_of_getElem? hx)
        obtain ⟨⟨s1, s2⟩, s3, s4⟩ := sq_bd hv
        simp only at s1 s2 s3 s4
        have hnx : reachU (l.take (k + 1)) = maxI q (x * x + y * y) := by rw [reachU, foldl_next hx, HQ.out]; rfl
        have hb := reach_bd (all_take HA.out (k + 1))
        rw [hnx] at hb
        have HB := Lib.hid hb; have HNX := Lib.hid hnx; have HX := Lib.hid hx
        clear hx hv hb hnx
        by_cases hq : q < x * x + y * y
        · go_wp2_with fail
          go_roundw
          case rel => exact ⟨k + 1, by omega, by go_num, mC, _, rfl, Lib.hid (by rw [HNX.out, maxI, if_pos hq]), by omega, by omega⟩
          case measure => simp [intOf]; omega
        · go_wp2_with fail
          go_roundw
          case rel => exact ⟨k + 1, by omega, by go_num, mC, _, rfl, Lib.hid (by rw [HNX.out, maxI, if_neg hq]), by omega, by omega⟩
          case measure => simp [intOf]; omega
      · go_wp2_with fail
        go_ret
        exact ⟨ret_int (by rw [HQ.out, reachF, if_pos HP.out, List.take_of_length_le (by rw [← HN.out]; omega)]), hm⟩
  · have HP := Lib.hid hp
    go_enter Try.func17, Try.ntmps17
    go_wp2_with (go_at_call 14; refine (impl_IsPolygon _ l _ HV0.out HL.out).mono ?_; rintro e w1 ⟨rfl, hb1⟩)
    go_ret
    exact ⟨ret_int (by rw [reachF, HP.out]; rfl), mC⟩
end Go.Proofs.Ytbbibfeblaocfaa
