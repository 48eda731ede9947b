/- A queue of ints: what is left of a row of the call's own behind an offset; an element is put behind it. -/
import Derived.Test.YtbbibfeblaocfaaApp
import Derived.Test.YtbbibfeblaocfaaBfs
import Derived.ArgAppend
import Derived.Deep.RegionHeld3
namespace Go.Proofs.Ytbbibfeblaocfaa
open Go.RowKit
def QueI (B g : Nat) (w : World) (v : Value) (xs : List Int) : Prop :=
  ∃ off cap, v = .slice (some ⟨g, off, none⟩) xs.length cap ∧ B ≤ g ∧ g < w.heap.size ∧ xs.length ≤ cap ∧ cap ≤ maxLen ∧
    (∀ j, j < cap → (w.cell? ⟨g, off + j, none⟩).isSome = true ∧ w.frozen? ⟨g, off + j, none⟩ = false) ∧
    ∀ (j : Nat) (x : Int), xs[j]? = some x → w.cell? ⟨g, off + j, none⟩ = some (.int .i64 x) ∧ In64 x
theorem QueI.row {B g n cap : Nat} {w : World} {e : TypeId} {cur : Array Value} {xs : List Int} (hB : B ≤ g) (hg : w.heap[g]? = some (.cells cur e (0, 0))) (hl : xs.length = n) (hn : n ≤ cap) (hc : cap ≤ maxLen) (hs : cur.size = cap)
    (hx : ∀ (j : Nat) (x : Int), xs[j]? = some x → cur[j]? = some (Value.int .i64 x) ∧ In64 x) : QueI B g w (.slice (some ⟨g, 0, none⟩) n cap) xs := by
  refine ⟨0, cap, by rw [hl], hB, heap_lt hg, by omega, hc, fun j hj => ⟨?_, ?_⟩, fun j x h => ⟨?_, (hx j x h).2⟩⟩
  · rw [Nat.zero_add, cell_of_row w g j cur e (0, 0) hg, Array.getElem?_eq_getElem (by omega)]
    rfl
  · exact frozen_of_row w g _ cur e hg
  · rw [Nat.zero_add, cell_of_row w g j cur e (0, 0) hg]
    exact (hx j x h).1
theorem own_form {w : World} {base : Nat} {e : TypeId} {size : Nat} {v : Value} {n : Nat} {xs : List Value} (h : w.ownsRow base e size v n xs) (hn : 0 < n) :
    ∃ g cap, v = .slice (some ⟨g, 0, none⟩) n cap ∧ base ≤ g ∧ g < w.heap.size := by
  rcases h.2 with ⟨_, h0⟩ | ⟨g, cap, cur, hv, hb, hg, _⟩
  · omega
  · exact ⟨g, cap, hv, hb, heap_lt hg⟩
theorem QueI.lit1 {B N : Nat} {w : World} {e : TypeId} {k : Int} (hN : w.heap.size = N) (hB : B ≤ N) (hk : In64 k) : QueI B N (w.alloc (.cells #[.int .i64 k] e)) (.slice (some ⟨N, 0, none⟩) 1 1) [k] := by
  subst hN
  refine QueI.row (n := 1) (cap := 1) hB (heap_alloc_new w _) rfl (by decide) (by decide) rfl (fun j x h => ?_)
  obtain rfl : j = 0 := by
    have := (List.getElem?_eq_some_iff.1 h).1
    simp at this
    exact this
  simp at h
  subst h
  exact ⟨rfl, hk⟩
theorem QueI.keep {B g : Nat} {w w' : World} {v : Value} {xs : List Int} (h : QueI B g w v xs) (hb : w'.heap[g]? = w.heap[g]?) (hs : w.heap.size ≤ w'.heap.size) : QueI B g w' v xs := by
  obtain ⟨off, cap, rfl, h1, h2, h3, h4, h5, h6⟩ := h
  refine ⟨off, cap, rfl, h1, by omega, h3, h4, fun j hj => ?_, fun j x hx => ?_⟩
  · rw [World.cell?_of_block (w := w) (a := ⟨g, off + j, none⟩) hb, World.frozen?_of_block (w := w) (a := ⟨g, off + j, none⟩) hb]
    exact h5 j hj
  · rw [World.cell?_of_block (w := w) (a := ⟨g, off + j, none⟩) hb]
    exact h6 j x hx
theorem QueI.lt {B g : Nat} {w : World} {v : Value} {xs : List Int} (h : QueI B g w v xs) : B ≤ g ∧ g < w.heap.size := by
  obtain ⟨off, cap, rfl, h1, h2, _⟩ := h
  exact ⟨h1, h2⟩
theorem QueI.more {B g : Nat} {w w' : World} {v : Value} {xs : List Int} (h : QueI B g w v xs) (hm : More w w') : QueI B g w' v xs := h.keep (hm.block g h.lt.2) hm.size
/-- The rest behind the first. -/
theorem QueI.tail {B g off cap n : Nat} {w : World} {x : Int} {xs : List Int} (h : QueI B g w (.slice (some ⟨g, off, none⟩) n cap) (x :: xs)) {off' : Nat} (ho : off' = off + 1 ∨ cap = 1) : QueI B g w (.slice (some ⟨g, off', none⟩) (n - 1) (cap - 1)) xs := by
  obtain ⟨o, c, e, h1, h2, h3, h4, h5, h6⟩ := h
  cases e
  simp only [List.length_cons] at h3
  refine ⟨off', cap - 1, by simp, h1, h2, by omega, by omega, fun j hj => ?_, fun j y hy => ?_⟩
  · obtain rfl : off' = off + 1 := by omega
    have := h5 (j + 1) (by omega)
    rwa [show off + (j + 1) = off + 1 + j by omega] at this
  · have hjl := (List.getElem?_eq_some_iff.1 hy).1
    obtain rfl : off' = off + 1 := by omega
    have := h6 (j + 1) y (by simpa using hy)
    rwa [show off + (j + 1) = off + 1 + j by omega] at this
theorem wpList_pushQ {P : Program} {ops : Array Oper} {rest : List Oper} {o : Oper} {a : Act} {Q : Exit → Act → World → Prop} {w : World} {C : Array Value} {te : TypeId} (w0 : World) (hgd : o.guard = none) (s x : Operand) (t : TypeId)
    (ho : o.op = .call { callee := .builtin .append, args := #[s, x], argTypes := #[t, t] })
    (B g : Nat) (e : TypeId) (i : TypeInfo) (z : Value) (bytes : Nat) (ht : P.underlying t = some (.slice e)) (hi : P.info? e = some i) (hz : i.zero = some z)
    (hsize : i.size = 1) (hby : i.bytes = bytes) (hzs : z.cells.size = 1)
    {v : Value} {xs : List Int} (hs : a.eval s = v) (hq : QueI B g w0 v xs) (hmore : More w0 w)
    {N : Nat} (hx : a.eval x = .slice (some ⟨N, 0, none⟩) 1 1) (hN : w.heap.size = N) {y : Int} (hC : C.toList = [.int .i64 y]) (hy : In64 y) (hlen : Hid (xs.length ≤ 2097152)) (hbytes : bytes ≤ 65536)
    (h : ∀ v' g' w', QueI B g' w' v' (xs ++ [y]) → (g' = g ∨ w.heap.size < g') → Turns [g] w w' → wpList P ops Q rest (a.put o.dst v') w') :
    wpList P ops Q (o :: rest) a (w.alloc (.cells C te)) := by
  refine wpList_plain hgd fun K hK => ?_
  subst hN
  have hlen' := hlen.out
  have hq2 : QueI B g (w.alloc (.cells C te)) v xs := (hq.more hmore).more (Turns.more ((Turns.refl [] w).alloc _))
  obtain ⟨hBg, hgw⟩ := (hq.more hmore).lt
  obtain ⟨off, cap, rfl, -, h2, h3, h4, h5, h6⟩ := hq2
  have hCs : C.size = 1 := by
    have := congrArg List.length hC
    simpa using this
  have hnews : ∀ j u, C.toList[j]? = some u → (w.alloc (.cells C te)).cell? ((⟨w.heap.size, 0, none⟩ : Addr).add j) = some u := by
    intro j u hu
    rw [Addr.add_lit, Nat.zero_add, cell_of_row _ w.heap.size j C te (0, 0) (heap_alloc_new w _)]
    simpa using hu
  have h1 : ∀ u ∈ C.toList, u.oneCell' = true := by
    intro u hu
    rw [hC] at hu
    simp at hu
    subst hu
    rfl
  by_cases hroom : xs.length + 1 ≤ cap
  · have hrun := run_append_room_cells (P := P) (w.alloc (.cells C te)) t o.type e i ht hi g off xs.length cap ⟨w.heap.size, 0, none⟩ 1 1 C.toList (by rw [hC, hsize]; rfl) hnews h1 hroom
      (fun j hj => by
        have hj0 : j = 0 := by rw [hC] at hj; simp at hj; exact hj
        subst hj0
        rw [hsize, Nat.mul_one, Nat.add_zero]
        exact (h5 _ (by omega)).1)
      (fun j hj => by
        have hj0 : j = 0 := by rw [hC] at hj; simp at hj; exact hj
        subst hj0
        rw [hsize, Nat.mul_one, Nat.add_zero]
        exact (h5 _ (by omega)).2)
    rw [hC, hsize, Nat.mul_one] at hrun
    unfold Oper.wp execOp
    simp only [ho, resolve, invoke, builtin, Sem.run_bind, Sem.run_pure, Result.andThen_ok, List.map_toArray, List.map_cons, List.map_nil, hs, hx, hrun]
    refine hK _ _ (h _ g _ ?_ (.inl rfl) ?_)
    · have hsame := World.cell?_setCell_same' (w.alloc (.cells C te)) ⟨g, off + xs.length, none⟩ (.int .i64 y) (h5 _ (by omega)).1
      refine ⟨off, cap, by simp, hBg, ?_, by simp; omega, h4, fun j hj => ⟨?_, ?_⟩, fun j u hu => ?_⟩
      · exact Nat.lt_of_lt_of_le h2 (Turns.setCell (bs := [g]) (Turns.refl [g] (w.alloc (.cells C te))) (p := ⟨g, off + xs.length, none⟩) (.inl (by simp)) (.int .i64 y)).size
      · show (((w.alloc (.cells C te)).setCell ⟨g, off + xs.length, none⟩ (.int .i64 y)).cell? _).isSome = true
        by_cases e : j = xs.length
        · subst e; rw [hsame]; rfl
        · rw [World.cell?_setCell_other _ _ _ _ (by intro h9; simp at h9 <;> omega)]
          exact (h5 j hj).1
      · show ((w.alloc (.cells C te)).setCell ⟨g, off + xs.length, none⟩ (.int .i64 y)).frozen? _ = false
        rw [World.frozen?_setCell]
        exact (h5 j hj).2
      · show ((w.alloc (.cells C te)).setCell ⟨g, off + xs.length, none⟩ (.int .i64 y)).cell? _ = _ ∧ _
        by_cases e : j = xs.length
        · subst e
          rw [List.getElem?_append_right (Nat.le_refl _)] at hu
          simp at hu
          subst hu
          exact ⟨hsame, hy⟩
        · have hjl := (List.getElem?_eq_some_iff.1 hu).1
          simp at hjl
          rw [List.getElem?_append_left (by omega)] at hu
          rw [World.cell?_setCell_other _ _ _ _ (by intro h9; simp at h9 <;> omega)]
          exact h6 j u hu
    · exact Turns.setCell ((Turns.refl _ w).alloc _) (.inl (by simp)) _
  · obtain ⟨v', w', hr, r1, r2⟩ := run_append_arg_grows (P := P) (w.alloc (.cells C te)) t o.type e i z 1 bytes ht hi hz hsize hby hzs (by decide) ⟨g, off, none⟩ xs.length cap (xs.map (Value.int .i64)) (by simp)
      (fun j u hu => by
        rw [Addr.add_lit]
        rw [List.getElem?_map] at hu
        obtain ⟨x', hx', rfl⟩ := Option.map_eq_some_iff.1 hu
        exact (h6 j x' hx').1)
      ⟨w.heap.size, 0, none⟩ 1 1 C.toList (by rw [hC]; rfl) hnews (by omega) (by unfold maxLen; omega) (by have := Nat.mul_le_mul (show xs.length + 1 ≤ 2097153 by omega) hbytes; omega)
    unfold Oper.wp execOp
    simp only [ho, resolve, invoke, builtin, Sem.run_bind, Sem.run_pure, Result.andThen_ok, List.map_toArray, List.map_cons, List.map_nil, hs, hx, hr]
    have ht2 : Turns [g] w w' := Turns.trans ((Turns.refl _ w).alloc _) ⟨r2.os, r2.tape, r2.output, r2.size, fun k hk _ => r2.block k hk (by simp)⟩
    obtain ⟨r0, rr⟩ := r1
    rcases rr with ⟨_, h0⟩ | ⟨g', cap', cur, rfl, q1, q2, q3, q4, q5, q6⟩
    · omega
    refine hK _ _ (h _ g' _ ?_ (.inr ?_) ht2)
    · refine QueI.row (n := xs.length + 1) (by have := ht2.size; simp at q1; omega) q2 (by simp) q3 q4 (by omega) (fun j u hu => ?_)
      have hjl := (List.getElem?_eq_some_iff.1 hu).1
      simp at hjl
      have hcu : cur[j]? = (xs.map (Value.int .i64) ++ C.toList)[j]? := by
        rw [← q6, List.getElem?_take_of_lt (by omega), Array.getElem?_toList]
      by_cases e : j = xs.length
      · subst e
        rw [List.getElem?_append_right (Nat.le_refl _)] at hu
        simp at hu
        subst hu
        rw [hcu, hC, List.getElem?_append_right (by simp)]
        exact ⟨by simp, hy⟩
      · rw [List.getElem?_append_left (by omega)] at hu
        rw [hcu, List.getElem?_append_left (by simp; omega), List.getElem?_map, hu]
        exact ⟨rfl, (h6 j u hu).2⟩
    · simp at q1
      omega
/-! ### What stands in a list -/
theorem has_mem {l : List Int} {n : Int} : l.contains n = true ↔ ∃ j : Nat, l[j]? = some n := by
  rw [List.contains_iff_mem]
  exact List.mem_iff_getElem?
theorem has_no {l : List Int} {n : Int} (h : ∀ j : Nat, j < l.length → l[j]? ≠ some n) : l.contains n = false := by
  rw [Bool.eq_false_iff]
  intro hc
  obtain ⟨j, hj⟩ := has_mem.1 hc
  exact h j (List.getElem?_eq_some_iff.1 hj).1 hj
set_option maxHeartbeats 1600000 in
theorem spec_l17Has (v : Value) (l : List Int) (n : Int) (w : World) (hv : tInts.at w [v] l) (hl : l.length ≤ 1048576) :
    Calls Try.prog 117 #[v, .int .i64 n] w fun e w' => e = .returned (.bool (l.contains n)) ∧ More w w' := by
  obtain ⟨ao, cap, rfl⟩ := sl_len hv
  have HV := Lib.hid hv; clear hv
  obtain ⟨m, hm⟩ : ∃ m, m = l.length := ⟨_, rfl⟩
  rw [← hm] at HV hl ⊢
  have HM := Lib.hid hm; clear hm
  go_enter Try.func117, Try.ntmps117
  go_wp2_with fail
  go_loopw [9] (fun i wr => ∃ k : Nat, k ≤ m ∧ i = .int .i64 k ∧ More w wr ∧ Hid (∀ j, j < k → l[j]? ≠ some n)) (fun i _ => m - (intOf i).toNat)
  case atStart => exact ⟨0, Nat.zero_le _, rfl, mC, Lib.hid (fun j hj => by omega)⟩
  case round =>
    obtain ⟨k, hk, rfl, hmr, HE⟩ := hrel
    by_cases hlt : k < m
    · obtain ⟨b, off, x, rfl, hblt, hx, -, c0⟩ := int_el (Ty.at_more HV.out hmr) (k := k) (by rw [← HM.out]; exact hlt)
      have HX := Lib.hid hx; clear hx
      have hi0 : (0 : Int) ≤ (k : Int) := by omega
      have hi1 : (k : Int) < (m : Int) := by omega
      rcases Bool.eq_false_or_eq_true (x == n) with a0 | a0
      · go_wp2_with fail
        go_ret
        exact ⟨ret_bool (by rw [has_mem.2 ⟨k, by rw [HX.out, eq_of_beq a0]⟩]), mC⟩
      · go_wp2_with fail
        go_roundw
        case rel => exact ⟨k + 1, by omega, by go_num, mC, Lib.hid (fun j hj => by
          rcases Nat.lt_succ_iff_lt_or_eq.1 hj with h | rfl
          · exact HE.out j h
          · rw [HX.out]; intro e; cases e; simp at a0)⟩
        case measure => simp [intOf]; omega
    · go_wp2_with fail
      go_ret
      exact ⟨ret_bool (by rw [has_no (fun j hj => HE.out j (by have := HM.out; omega))]), mC⟩
set_option maxHeartbeats 1600000 in
theorem slicesIndex_int (v : Value) (l : List Int) (n : Int) (w : World) (hv : tInts.at w [v] l) (hl : l.length ≤ 1048576) :
    Calls Try.prog 155 #[v, .int .i64 n] w fun e w' => ∃ r : Int, e = .returned (.int .i64 r) ∧ decide (r ≥ 0) = l.contains n ∧ More w w' := by
  obtain ⟨ao, cap, rfl⟩ := sl_len hv
  have HV := Lib.hid hv; clear hv
  obtain ⟨m, hm⟩ : ∃ m, m = l.length := ⟨_, rfl⟩
  rw [← hm] at HV hl ⊢
  have HM := Lib.hid hm; clear hm
  go_enter Try.func155, Try.ntmps155
  go_wp2_with fail
  go_loopw [8] (fun i wr => ∃ k : Nat, k ≤ m ∧ i = .int .i64 k ∧ More w wr ∧ Hid (∀ j, j < k → l[j]? ≠ some n)) (fun i _ => m - (intOf i).toNat)
  case atStart => exact ⟨0, Nat.zero_le _, rfl, mC, Lib.hid (fun j hj => by omega)⟩
  case round =>
    obtain ⟨k, hk, rfl, hmr, HE⟩ := hrel
    by_cases hlt : k < m
    · obtain ⟨b, off, x, rfl, hblt, hx, -, c0⟩ := int_el (Ty.at_more HV.out hmr) (k := k) (by rw [← HM.out]; exact hlt)
      have HX := Lib.hid hx; clear hx
      have hi0 : (0 : Int) ≤ (k : Int) := by omega
      have hi1 : (k : Int) < (m : Int) := by omega
      rcases Bool.eq_false_or_eq_true (n == x) with a0 | a0
      · go_wp2_with fail
        go_ret
        refine ⟨(k : Int), rfl, ?_, mC⟩
        rw [has_mem.2 ⟨k, by rw [HX.out, eq_of_beq a0]⟩]
        simp
      · go_wp2_with fail
        go_roundw
        case rel => exact ⟨k + 1, by omega, by go_num, mC, Lib.hid (fun j hj => by
          rcases Nat.lt_succ_iff_lt_or_eq.1 hj with h | rfl
          · exact HE.out j h
          · rw [HX.out]; intro e; cases e; simp at a0)⟩
        case measure => simp [intOf]; omega
    · go_wp2_with fail
      go_ret
      refine ⟨-1, rfl, ?_, mC⟩
      rw [has_no (fun j hj => HE.out j (by have := HM.out; omega))]
      rfl
set_option maxHeartbeats 800000 in
theorem slicesContains_int (v : Value) (l : List Int) (n : Int) (w : World) (hv : tInts.at w [v] l) (hl : l.length ≤ 1048576) :
    Calls Try.prog 119 #[v, .int .i64 n] w fun e w' => e = .returned (.bool (l.contains n)) ∧ More w w' := by
  have HV := Lib.hid hv; have HL := Lib.hid hl; clear hv hl
  go_enter Try.func119, Try.ntmps119
  go_wp2_with (go_at_call 155; refine (slicesIndex_int _ l n _ (Ty.at_more HV.out mC) HL.out).mono ?_; rintro e w1 ⟨r, rfl, hr, hb1⟩)
  go_ret
  exact ⟨ret_bool (by simp), mC⟩
end Go.Proofs.Ytbbibfeblaocfaa
