/- SamePolygon: the reference's and the program's, slices.Equal, Grow and Concat of lists of vectors. -/
import Derived.Test.YtbbibfeblaocfaaGVec
import Derived.Test.YtbbibfeblaocfaaNeg
import Derived.Deep.RegionHeld3
import Derived.Deep.QuietTactic
import Derived.BigQuiet
import Derived.Laws.StructEq
import Derived.Lib.AppendZerosOnto
namespace Go.Proofs.Ytbbibfeblaocfaa
open Go.RowKit
/-- The rotation by k. -/
def rotL (m : List QV) (k : Nat) : List QV := m.drop k ++ m.take k
def samePF (l m : List QV) : Bool := decide (l.length = m.length) && (decide (l.length = 0) || (List.range l.length).any (fun k => decide (l = rotL m k)))
theorem rot_get {m : List QV} {k i n : Nat} (hn : m.length = n) (hk : k < n) (hi : i < n) : (rotL m k)[i]? = m[(i + k) % n]? := by
  subst hn
  unfold rotL
  by_cases h : i + k < m.length
  · rw [Nat.mod_eq_of_lt h, List.getElem?_append_left (by rw [List.length_drop]; omega), List.getElem?_drop, Nat.add_comm]
  · rw [List.getElem?_append_right (by rw [List.length_drop]; omega), List.length_drop, List.getElem?_take, if_pos (by omega)]
    rw [show (i + k) % m.length = i + k - m.length by rw [Nat.mod_eq_sub_mod (by omega), Nat.mod_eq_of_lt (by omega)]]
    congr 1; omega
theorem rot_len (m : List QV) (k : Nat) : (rotL m k).length = m.length := by unfold rotL; rw [List.length_append, List.length_drop, List.length_take]; omega
theorem rot_iff {l m : List QV} {k n : Nat} (hl : l.length = n) (hm : m.length = n) (hk : k < n) : l = rotL m k ↔ ∀ i, i < n → m[(i + k) % n]? = l[i]? := by
  constructor
  · intro h i hi
    rw [← rot_get hm hk hi, ← h]
  · intro h
    apply List.ext_getElem?
    intro i
    by_cases hi : i < n
    · rw [rot_get hm hk hi, h i hi]
    · rw [List.getElem?_eq_none (by omega), List.getElem?_eq_none (by rw [rot_len]; omega)]
theorem same_len {l m : List QV} (h : ¬ l.length = m.length) : samePF l m = false := by unfold samePF; simp [h]
theorem same_yes {l m : List QV} {k n : Nat} (hl : l.length = n) (hm : m.length = n) (hk : k < n) (h : l = rotL m k) : samePF l m = true := by
  unfold samePF
  have : (List.range l.length).any (fun k => decide (l = rotL m k)) = true := List.any_eq_true.2 ⟨k, List.mem_range.2 (by omega), by simpa using h⟩
  rw [this]; simp; omega
theorem same_end {l m : List QV} {n : Nat} (hl : l.length = n) (hm : m.length = n) (h : ∀ k, k < n → ¬ l = rotL m k) : samePF l m = decide (n = 0) := by
  unfold samePF
  have : (List.range l.length).any (fun k => decide (l = rotL m k)) = false := by
    rw [List.any_eq_false]
    intro k hk
    have := h k (by rw [List.mem_range] at hk; omega)
    simpa using this
  rw [this, hl, hm]; simp
theorem el_ext {α : Type} {l m : List α} {n : Nat} (hl : l.length = n) (hm : m.length = n) (h : ∀ j, j < n → l[j]? = m[j]?) : l = m := by
  apply List.ext_getElem?
  intro i
  by_cases hi : i < n
  · exact h i hi
  · rw [List.getElem?_eq_none (by omega), List.getElem?_eq_none (by omega)]
set_option maxRecDepth 8000 in
set_option maxHeartbeats 1600000 in
theorem slicesEqual_vec (v v' : Value) (l m : List QV) (w : World) (hv : tVecs.at w [v] l) (hv' : tVecs.at w [v'] m) (hl : l.length ≤ 4611686018427387904) (hm : m.length ≤ 4611686018427387904) :
    Calls Try.prog 65 #[v, v'] w fun e w' => e = .returned (.bool (decide (l = m))) ∧ More w w' := by
  obtain ⟨ao, cap, rfl⟩ := sl_len hv
  obtain ⟨ao', cap', rfl⟩ := sl_len hv'
  have HV := Lib.hid hv; clear hv
  have HV' := Lib.hid hv'; clear hv'
  obtain ⟨n, hn⟩ : ∃ n, n = l.length := ⟨_, rfl⟩
  obtain ⟨n', hn'⟩ : ∃ n', n' = m.length := ⟨_, rfl⟩
  rw [← hn] at HV hl ⊢
  rw [← hn'] at HV' hm ⊢
  have HN := Lib.hid hn; have HN' := Lib.hid hn'; clear hn hn'
  by_cases hne : n = n'
  · subst hne
    go_enter Try.func65, Try.ntmps65
    go_wp2_with fail
    go_loopw [13] (fun i wr => ∃ k : Nat, k ≤ n ∧ i = .int .i64 k ∧ More w wr ∧ Hid (∀ j, j < k → l[j]? = m[j]?)) (fun i _ => n - (intOf i).toNat)
    case atStart => exact ⟨0, Nat.zero_le _, rfl, More.refl _, Lib.hid (fun j hj => by omega)⟩
    case round =>
      obtain ⟨k, hk, rfl, hmr, HE⟩ := hrel
      by_cases hlt : k < n
      · obtain ⟨b, off, x, y, rfl, hblt, hx, -, -, c0, c1⟩ := vec_el (Ty.at_more HV.out hmr) (k := k) (by rw [← HN.out]; exact hlt)
        obtain ⟨b', off', x', y', rfl, hblt', hx', -, -, d0, d1⟩ := vec_el (Ty.at_more HV'.out hmr) (k := k) (by rw [← HN'.out]; exact hlt)
        have HX := Lib.hid hx; have HX' := Lib.hid hx'; clear hx hx'
        have hi0 : (0 : Int) ≤ (k : Int) := by omega
        have hi1 : (k : Int) < (n : Int) := by omega
        by_cases e1 : x = x'
        · subst e1
          by_cases e2 : y = y'
          · subst e2
            go_wp2_with fail
            go_quiet (fail)
            go_wp2_with fail
            go_roundw
            case rel => exact ⟨k + 1, by omega, by go_num, mC, Lib.hid (fun j hj => by
              rcases Nat.lt_succ_iff_lt_or_eq.1 hj with h | rfl
              · exact HE.out j h
              · rw [HX.out, HX'.out])⟩
            case measure => simp [intOf]; omega
          · have f2 : (y == y') = false := by simpa using e2
            go_wp2_with fail
            go_quiet (fail)
            go_wp2_with fail
            go_ret
            exact ⟨ret_bool (decide_eq_false (fun e => by
              have h1 := HX.out; have h2 := HX'.out
              rw [e, h2] at h1; cases h1; exact e2 rfl)).symm, mC⟩
        · have f1 : (x == x') = false := by simpa using e1
          go_wp2_with fail
          go_quiet (fail)
          go_wp2_with fail
          go_ret
          exact ⟨ret_bool (decide_eq_false (fun e => by
            have h1 := HX.out; have h2 := HX'.out
            rw [e, h2] at h1; cases h1; exact e1 rfl)).symm, mC⟩
      · go_wp2_with fail
        go_ret
        obtain rfl : k = n := by omega
        exact ⟨ret_bool (decide_eq_true (el_ext HN.out.symm HN'.out.symm HE.out)).symm, hmr⟩
  · have hne' : ((n : Int) != (n' : Int)) = true := by simp; omega
    go_enter Try.func65, Try.ntmps65
    go_wp2_with fail
    go_ret
    exact ⟨ret_bool (decide_eq_false (fun e => hne (by rw [HN.out, HN'.out, e]))).symm, More.refl _⟩
set_option maxRecDepth 8000 in
set_option maxHeartbeats 4000000 in
theorem grow_vec (n : Nat) (w : World) (hn : n ≤ 4194304) :
    Calls Try.prog 138 #[.slice none 0 0, .int .i64 n] w fun e w' => ∃ v', e = .returned v' ∧ More w w' ∧ w'.ownsRow w.heap.size 42 2 v' 0 [] := by
  by_cases h0 : n = 0
  · subst h0
    go_enter Try.func138, Try.ntmps138
    go_wp2_with fail
    go_ret
    exact ⟨_, rfl, mC, World.ownsRow_nil _ _ _ _⟩
  · obtain ⟨i0, hi, hz0, hz1, hz2⟩ := info_parts infoVec
    have h1 : ¬ ((n : Int) < 0) := by omega
    have h4 : (n : Int) > 0 := by omega
    have hrz : ∀ ty, (Builtin.append_ #[23, 3] ty #[.slice none 0 0, .int .i64 (n : Int)]).run Try.prog w =
        .ok (.slice (some ⟨w.heap.size, 0, none⟩) n (grownCap w n 0 42)) (w.drew.alloc (.cells (([] : List Value).toArray ++ Builtin.zeroCells (Value.agg #[.int .i64 0, .int .i64 0]).cells n ++ Builtin.zeroCells (Value.agg #[.int .i64 0, .int .i64 0]).cells (grownCap w n 0 42 - n)) 42)) := fun ty => by
      have h := Lib.run_append_grow_zeros w 23 3 ty 42 i0 (.agg #[.int .i64 0, .int .i64 0]) .i64 .i64 Try.underlying23 Try.underlying3 hi hz0 none 0 0 [] (run_firstCells_none w.drew i0.size 0 0 0) n (by omega) (by rw [hz1]; decide) (by omega) (by omega) (by rw [hz2]; omega)
        (growslice_fits (by omega) (by rw [hz2]; omega))
      simpa using h
    have hGn : n ≤ grownCap w n 0 42 := grownCap_ge w _ _ _
    have hGm := grownCap_le_maxLen w n 0 42 (by unfold maxLen; omega)
    obtain ⟨G, hG⟩ : ∃ G, G = grownCap w n 0 42 := ⟨_, rfl⟩
    rw [← hG] at hrz hGn hGm
    have hG63 : G ≤ 9223372036854775807 := by unfold maxLen at hGm; omega
    have HGm := Lib.hid hGm
    clear hG hGm
    go_enter Try.func138, Try.ntmps138
    go_wp2_with (at_builtin; refine Lib.wpList_append_run _ rfl _ _ _ _ rfl _ _ rfl rfl _ _ (hrz _) ?_)
    go_ret
    refine ⟨_, rfl, mC, ?_⟩
    refine ⟨rfl, .inr ⟨w.heap.size, G, _, rfl, Nat.le_refl _, heap_alloc_new _ _, Nat.zero_le _, HGm.out, ?_, by simp⟩⟩
    simp [size_zeroCells]
    omega
theorem at_ownsRow_nonempty {w : World} {v : Value} {l : List QV} (hv : tVecs.at w [v] l) (h : 0 < l.length) : ∃ b off c, v = .slice (some ⟨b, off, none⟩) l.length c ∧ b < w.heap.size ∧ (∀ x ∈ l, fVec.ok x) ∧ ∀ j u, (l.flatMap fVec.enc)[j]? = some u → w.cell? ⟨b, off + j, none⟩ = some u := by
  obtain ⟨ao, cap, rfl⟩ := sl_len hv
  obtain ⟨b, off, x, y, rfl, hb, -⟩ := vec_el hv (k := 0) h
  refine ⟨b, off, cap, rfl, hb, fun x hx => ?_, fun j u hj => ?_⟩
  · obtain ⟨k, hk, rfl⟩ := List.getElem_of_mem hx
    obtain ⟨b', off', c, e, -, hc, -⟩ := sl_el hv (List.getElem?_eq_getElem hk)
    exact (flat_at fVec hc).2
  · have hjl : j < l.length * 2 := by
      have := (List.getElem?_eq_some_iff.1 hj).1
      rwa [length_flatMap_chunk (s := 2) l (fun x _ => rfl)] at this
    have hk : j / 2 < l.length := by omega
    have hch := flatMap_chunk (f := fVec.enc) (s := 2) l (fun x _ => rfl) (j / 2) _ (List.getElem?_eq_getElem hk)
    obtain ⟨b', off', c, e, -, hc, hcell⟩ := sl_el hv (List.getElem?_eq_getElem hk)
    cases e
    obtain ⟨rfl, -⟩ := flat_at fVec hc
    have hj2 : (fVec.enc l[j / 2])[j % 2]? = some u := by
      rw [← hch, List.getElem?_take, if_pos (by omega), List.getElem?_drop, show j / 2 * 2 + j % 2 = j by omega]
      exact hj
    have := hcell (j % 2) u hj2
    rwa [show off + j / 2 * tVec.size + j % 2 = off + j by show off + j / 2 * 2 + j % 2 = _; omega] at this
set_option maxRecDepth 8000 in
set_option maxHeartbeats 4000000 in
theorem concat2_vec (b b1 o1 n1 c1 b2 o2 n2 c2 : Nat) (l1 l2 : List QV) (w : World) (h0 : w.cell? ⟨b, 0, none⟩ = some (.slice (some ⟨b1, o1, none⟩) n1 c1)) (h1 : w.cell? ⟨b, 1, none⟩ = some (.slice (some ⟨b2, o2, none⟩) n2 c2)) (hb : b < w.heap.size)
    (hn1 : l1.length = n1) (hn2 : l2.length = n2) (k1 : b1 < w.heap.size) (k2 : b2 < w.heap.size) (g1 : ∀ j u, (l1.flatMap fVec.enc)[j]? = some u → w.cell? ⟨b1, o1 + j, none⟩ = some u) (g2 : ∀ j u, (l2.flatMap fVec.enc)[j]? = some u → w.cell? ⟨b2, o2 + j, none⟩ = some u)
    (ok1 : ∀ x ∈ l1, fVec.ok x) (ok2 : ∀ x ∈ l2, fVec.ok x) (hl : n1 + n2 ≤ 2097152) :
    Calls Try.prog 66 #[.slice (some ⟨b, 0, none⟩) 2 2] w fun e w' => ∃ v', e = .returned v' ∧ More w w' ∧ tVecs.at w' [v'] (l1 ++ l2) := by
  obtain ⟨i0, hi, hz0, hz1, hz2⟩ := info_parts infoVec
  have G1 := Lib.hid g1; have G2 := Lib.hid g2; have N1 := Lib.hid hn1; have N2 := Lib.hid hn2; have OK1 := Lib.hid ok1; have OK2 := Lib.hid ok2
  clear g1 g2 hn1 hn2 ok1 ok2
  go_enter Try.func66, Try.ntmps66
  go_wp2_with fail
  refine wp_loop_rounds 3 ?_
  rw [rounds_succ]
  go_wp2_with fail
  rw [rounds_succ]
  go_wp2_with fail
  rw [rounds_succ]
  go_wp2_with fail
  have hz : ((n1 : Int) + (n2 : Int)) = ((n1 + n2 : Nat) : Int) := by simp
  rw [hz]
  refine (grow_vec (n1 + n2) _ (by omega)).mono ?_
  rintro e w1 ⟨v1, rfl, hb1, ho1⟩
  have HO1 := Lib.hid ho1; clear ho1 hz
  obtain ⟨hc1, hf1⟩ := bcell hb1
  go_wp2_with fail
  refine wp_loop_rounds 3 ?_
  rw [rounds_succ]
  go_wp2_with (at_builtin; (refine wpList_append_own _ rfl _ _ 23 rfl w.heap.size 42 i0 (.agg #[.int .i64 0, .int .i64 0]) 2 16 Try.underlying23 hi hz0 hz1 hz2 rfl (by decide) _ 0 [] rfl HO1.out ⟨b1, o1, none⟩ n1 c1 (l1.flatMap fVec.enc) rfl ?qc1 ?qc2 ?qc3 ?qc4 ?qc5 ?qc6 ?_))
  case qc1 => rw [length_flatMap_chunk (s := 2) l1 (fun x _ => rfl), N1.out]
  case qc2 => intro j u hj; rw [Addr.add_lit, (bcell hb1).1 _ _ k1]; exact G1.out j u hj
  case qc3 => intro u hu; obtain ⟨x, _, hx⟩ := List.mem_flatMap.1 hu; exact tVec.one (p := fun _ => True) (w := w) ((fVec.rd_iff _ _ _ _).2 ⟨rfl, OK1.out x ‹_›⟩) u hx
  case qc4 => unfold maxLen; omega
  case qc5 => omega
  case qc6 => exact hb1.size
  intro v2 w2 hown2 hgrow2 _
  have hb2 : More w w2 := More.turn hb1 (Turns.grown (bs := v1.ownBlock.toList) (Turns.refl _ _) hgrow2 (fun k hk => .inl (by simp [hk]))) (fun k hk => (HO1.out.lt k (by simpa using hk)).1)
  have HO2 : Hid (w2.ownsRow w.heap.size 42 2 v2 n1 (l1.flatMap fVec.enc)) := Lib.hid (by simpa using hown2)
  clear hown2 hgrow2 hc1 hf1 hb1
  obtain ⟨hc2, hf2⟩ := bcell hb2
  go_wp2_with fail
  rw [rounds_succ]
  go_wp2_with (at_builtin; (refine wpList_append_own _ rfl _ _ 23 rfl w.heap.size 42 i0 (.agg #[.int .i64 0, .int .i64 0]) 2 16 Try.underlying23 hi hz0 hz1 hz2 rfl (by decide) _ n1 (l1.flatMap fVec.enc) rfl HO2.out ⟨b2, o2, none⟩ n2 c2 (l2.flatMap fVec.enc) rfl ?rc1 ?rc2 ?rc3 ?rc4 ?rc5 ?rc6 ?_))
  case rc1 => rw [length_flatMap_chunk (s := 2) l2 (fun x _ => rfl), N2.out]
  case rc2 => intro j u hj; rw [Addr.add_lit, (bcell hb2).1 _ _ k2]; exact G2.out j u hj
  case rc3 => intro u hu; obtain ⟨x, _, hx⟩ := List.mem_flatMap.1 hu; exact tVec.one (p := fun _ => True) (w := w) ((fVec.rd_iff _ _ _ _).2 ⟨rfl, OK2.out x ‹_›⟩) u hx
  case rc4 => unfold maxLen; omega
  case rc5 => omega
  case rc6 => exact hb2.size
  intro v3 w3 hown3 hgrow3 _
  have hb3 : More w w3 := More.turn hb2 (Turns.grown (bs := v2.ownBlock.toList) (Turns.refl _ _) hgrow3 (fun k hk => .inl (by simp [hk]))) (fun k hk => (HO2.out.lt k (by simpa using hk)).1)
  have HO3 := Lib.hid hown3
  clear hown3 hgrow3 hc2 hf2
  go_wp2_with fail
  rw [rounds_succ]
  go_wp2_with fail
  go_ret
  refine ⟨v3, rfl, hb3, Ty.fresh_at (B := w.heap.size) (fresh_of_row (e := 42) fVec ?_ ?_)⟩
  · rw [List.length_append, N1.out, N2.out, List.flatMap_append]
    exact HO3.out
  · intro x hx
    rcases List.mem_append.1 hx with h | h
    · exact OK1.out x h
    · exact OK2.out x h
theorem drop_enc {m : List QV} (k : Nat) {j : Nat} {u : Value} (h : ((m.drop k).flatMap fVec.enc)[j]? = some u) : (m.flatMap fVec.enc)[k * 2 + j]? = some u := by
  have e : m.flatMap fVec.enc = (m.take k).flatMap fVec.enc ++ (m.drop k).flatMap fVec.enc := by rw [← List.flatMap_append, List.take_append_drop]
  have hl := length_flatMap_chunk (f := fVec.enc) (s := 2) (m.take k) (fun x _ => rfl)
  by_cases hk : k ≤ m.length
  · rw [List.length_take, Nat.min_eq_left hk] at hl
    rw [e, List.getElem?_append_right (by omega), hl, show k * 2 + j - k * 2 = j by omega]
    exact h
  · rw [List.drop_of_length_le (by omega)] at h
    simp at h
theorem take_enc {m : List QV} (k : Nat) {j : Nat} {u : Value} (h : ((m.take k).flatMap fVec.enc)[j]? = some u) : (m.flatMap fVec.enc)[j]? = some u := by
  have e : m.flatMap fVec.enc = (m.take k).flatMap fVec.enc ++ (m.drop k).flatMap fVec.enc := by rw [← List.flatMap_append, List.take_append_drop]
  rw [e, List.getElem?_append_left (List.getElem?_eq_some_iff.1 h).1]
  exact h
set_option maxRecDepth 8000 in
set_option maxHeartbeats 3200000 in
theorem impl_SamePolygon (v v' : Value) (l m : List QV) (w : World) (hv : tVecs.at w [v] l) (hv' : tVecs.at w [v'] m) (hl : l.length ≤ 1048576) (_hm : m.length ≤ 1048576) :
    Calls Try.prog 15 #[v, v'] w fun e w' => e = .returned (.bool (samePF l m)) ∧ More w w' := by
  by_cases hne : l.length = m.length
  · by_cases h0 : l.length = 0
    · obtain ⟨ao, cap, rfl⟩ := sl_len hv
      obtain ⟨ao', cap', rfl⟩ := sl_len hv'
      have hs : samePF l m = true := by unfold samePF; rw [decide_eq_true hne, decide_eq_true h0]; rfl
      have HS := Lib.hid hs
      clear hs hv hv' hl
      obtain ⟨n, hn⟩ : ∃ n, n = m.length := ⟨_, rfl⟩
      obtain rfl : n = 0 := by omega
      rw [hne, ← hn]
      clear hne hn h0
      go_enter Try.func15, Try.ntmps15
      go_wp2_with fail
      refine wp_loop_rounds 1 ?_
      rw [rounds_succ]
      go_wp2_with fail
      go_ret
      exact ⟨ret_bool HS.out.symm, More.refl _⟩
    · obtain ⟨b', off', cap', rfl, hb', hok, hcell⟩ := at_ownsRow_nonempty hv' (by omega)
      have HV0 := Lib.hid hv
      obtain ⟨ao, cap, rfl⟩ := sl_len hv
      obtain ⟨ao2, cap2, hv2, hcm, hmx, -⟩ := slRd_at hv'
      have hcap : m.length ≤ cap' := by cases hv2; exact hcm
      have hcap2 : cap' ≤ 9223372036854775807 := by cases hv2; unfold maxLen at hmx; exact hmx
      clear hv2 hcm hmx
      clear hv hv'
      obtain ⟨n, hn⟩ : ∃ n, n = l.length := ⟨_, rfl⟩
      have hn' : n = m.length := by omega
      rw [← hn] at hl h0 HV0 ⊢
      rw [← hn'] at hcap ⊢
      have HN := Lib.hid hn; have HN' := Lib.hid hn'; have OK := Lib.hid hok; have HC := Lib.hid hcell; clear hn hn' hok hcell hne
      go_enter Try.func15, Try.ntmps15
      go_wp2_with fail
      go_loopw [13] (fun i wr => ∃ k : Nat, k ≤ n ∧ i = .int .i64 k ∧ More w wr ∧ Hid (∀ k', k' < k → ¬ l = rotL m k')) (fun i _ => n - (intOf i).toNat)
      case atStart => exact ⟨0, Nat.zero_le _, rfl, More.refl _, Lib.hid (fun j hj => by omega)⟩
      case round =>
        obtain ⟨k, hk, rfl, hmr, HK⟩ := hrel
        by_cases hlt : k < n
        · have hbr : b' < wr.heap.size := Nat.lt_of_lt_of_le hb' hmr.size
          have i0 : (0 : Int) ≤ (k : Int) := by omega
          have i1 : (k : Int) ≤ (n : Int) := by omega
          have i2 : (k : Int) ≤ (cap' : Int) := by omega
          have i3 : (n : Int) ≤ (cap' : Int) := by omega
          have i4 : (cap' : Int) ≤ 9223372036854775807 := by omega
          have i5 : ¬ (cap' = k) := by omega
          have CC1 : Hid (∀ W, More wr W → (∀ j u, ((m.drop k).flatMap fVec.enc)[j]? = some u → W.cell? ⟨b', off' + k * 2 + j, none⟩ = some u) ∧ (∀ j u, ((m.take k).flatMap fVec.enc)[j]? = some u → W.cell? ⟨b', off' + j, none⟩ = some u) ∧ b' < W.heap.size) := Lib.hid (fun W hW => ⟨fun j u hj => by
              rw [(bcell (hmr.trans hW)).1 _ _ hb', show off' + k * 2 + j = off' + (k * 2 + j) by omega]
              exact HC.out _ _ (drop_enc k hj), fun j u hj => by
              rw [(bcell (hmr.trans hW)).1 _ _ hb']
              exact HC.out _ _ (take_enc k hj), Nat.lt_of_lt_of_le hbr hW.size⟩)
          have OK1 : Hid (∀ x ∈ m.drop k, fVec.ok x) := Lib.hid (fun x hx => OK.out x (List.mem_of_mem_drop hx))
          have OK2 : Hid (∀ x ∈ m.take k, fVec.ok x) := Lib.hid (fun x hx => OK.out x (List.mem_of_mem_take hx))
          rcases Bool.eq_false_or_eq_true (decide (l = rotL m k)) with hd | hd
          all_goals
            have HD := Lib.hid hd
            go_wp2_with fail
            go_region_held3 (fun w' => More wr w') (first | exact More.refl _ | exact mC) (first | (go_at_call 66; refine (concat2_vec _ b' (off' + k * 2) (n - k) (cap' - k) b' off' k cap' (m.drop k) (m.take k) _ (by simp) (by simp) (by simp) (by rw [List.length_drop, ← HN'.out]) (by rw [List.length_take, ← HN'.out]; omega) (CC1.out _ mC).2.2 (CC1.out _ mC).2.2 (CC1.out _ mC).1 (CC1.out _ mC).2.1 OK1.out OK2.out (by omega)).mono ?_; rintro e w1 ⟨x, rfl, hb1, hx1⟩; have HX1 := Lib.hid hx1; clear hx1) | (go_at_call 65; refine (slicesEqual_vec _ _ l (rotL m k) _ (Ty.at_more HV0.out mC) HX1.out (by rw [← HN.out]; omega) (by rw [rot_len, ← HN'.out]; omega)).mono ?_; rintro e w2 ⟨rfl, hb2⟩))
            go_wp2_with fail
          · go_ret
            exact ⟨ret_bool (same_yes HN.out.symm HN'.out.symm hlt (of_decide_eq_true HD.out)).symm, mC⟩
          · go_roundw
            case rel => exact ⟨k + 1, by omega, by go_num, mC, Lib.hid (fun k' hk' => by
              rcases Nat.lt_succ_iff_lt_or_eq.1 hk' with h | rfl
              · exact HK.out k' h
              · exact of_decide_eq_false HD.out)⟩
            case measure => simp [intOf]; omega
        · go_wp2_with fail
          go_ret
          obtain rfl : k = n := by omega
          exact ⟨ret_bool (b := samePF l m) (by rw [same_end HN.out.symm HN'.out.symm HK.out, Bool.eq_iff_iff, beq_iff_eq, decide_eq_true_eq]; omega), mC⟩
  · obtain ⟨ao, cap, rfl⟩ := sl_len hv
    obtain ⟨ao', cap', rfl⟩ := sl_len hv'
    have hne' : ((l.length : Int) != (m.length : Int)) = true := by simp; omega
    have HNE := Lib.hid hne
    clear hv hv'
    go_enter Try.func15, Try.ntmps15
    go_wp2_with fail
    go_ret
    exact ⟨ret_bool (same_len HNE.out).symm, More.refl _⟩
end Go.Proofs.Ytbbibfeblaocfaa
