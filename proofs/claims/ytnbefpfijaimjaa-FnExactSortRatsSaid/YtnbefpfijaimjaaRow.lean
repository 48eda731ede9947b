/- Rows of elements that are read and not owned: the cells of a slice; an element put behind a full slice. It speaks of no program. -/
import Derived.Test.YtnbefpfijaimjaaApp
import Derived.ArgAppend
namespace Go.Proofs.Ytnbefpfijaimjaa
open Go.RowKit
variable {α : Type}

theorem cells_choose {n : Nat} {Pr : Nat → Value → Prop} (h : ∀ k, k < n → ∃ u, Pr k u) : ∃ xs : List Value, xs.length = n ∧ ∀ k u, xs[k]? = some u → Pr k u := by
  induction n with
  | zero => exact ⟨[], rfl, by simp⟩
  | succ n ih =>
    obtain ⟨xs, h1, h2⟩ := ih (fun k hk => h k (by omega))
    obtain ⟨u, hu⟩ := h n (by omega)
    refine ⟨xs ++ [u], by simp [h1], fun k v hv => ?_⟩
    by_cases hk : k < xs.length
    · rw [List.getElem?_append_left hk] at hv; exact h2 k v hv
    · rw [List.getElem?_append_right (by omega)] at hv
      obtain rfl : k = xs.length := by
        have := (List.getElem?_eq_some_iff.1 hv).1
        simp at this; omega
      simp at hv; subst hv; rw [h1]; exact hu

/-- The cells of a slice's elements. -/
theorem at_cells {S : Ty α} (hs : 0 < S.size) {p : Nat → Prop} {w : World} {b off n cap : Nat} {l : List α} (h : (tSlice S).rd p w [.slice (some ⟨b, off, none⟩) n cap] l) :
    ∃ xs : List Value, xs.length = n * S.size ∧ (∀ j u, xs[j]? = some u → w.cell? ⟨b, off + j, none⟩ = some u) ∧ (∀ u ∈ xs, u.oneCell' = true) ∧ ∀ i x, l[i]? = some x → S.rd p w ((xs.drop (i * S.size)).take S.size) x := by
  obtain ⟨ao', cap', h0, _, _, _, h4⟩ := slRd_at h
  simp at h0
  obtain ⟨rfl, rfl, rfl⟩ := h0
  have key : ∀ k, k < l.length * S.size → ∃ u, w.cell? ⟨b, off + k, none⟩ = some u ∧ u.oneCell' = true := by
    intro k hk
    have hi : k / S.size < l.length := by rw [Nat.div_lt_iff_lt_mul hs]; exact hk
    obtain ⟨b', o', e, _, _, he⟩ := h4 (Nat.lt_of_le_of_lt (Nat.zero_le _) hi)
    cases e
    obtain ⟨c, hc, hv⟩ := he (k / S.size) _ (List.getElem?_eq_getElem hi)
    have hj : k % S.size < c.length := by rw [S.len hc]; exact Nat.mod_lt _ hs
    have h1 := hv (k % S.size) _ (List.getElem?_eq_getElem hj)
    rw [Nat.add_assoc, Nat.mul_comm, Nat.div_add_mod] at h1
    exact ⟨_, h1, S.one hc _ (List.getElem_mem hj)⟩
  obtain ⟨xs, hx1, hx2⟩ := cells_choose key
  refine ⟨xs, hx1, fun j u hu => (hx2 j u hu).1, fun u hu => ?_, fun i x hx => ?_⟩
  · obtain ⟨j, hj⟩ := List.mem_iff_getElem?.1 hu
    exact (hx2 j u hj).2
  · have hi := (List.getElem?_eq_some_iff.1 hx).1
    obtain ⟨b', o', e, _, _, he⟩ := h4 (by omega)
    cases e
    obtain ⟨c, hc, hv⟩ := he i x hx
    have hcl := S.len hc
    have h6 : (i + 1) * S.size ≤ l.length * S.size := Nat.mul_le_mul_right _ hi
    rw [Nat.succ_mul] at h6
    suffices (xs.drop (i * S.size)).take S.size = c by rw [this]; exact hc
    refine List.ext_getElem? fun j => ?_
    rw [List.getElem?_take]
    by_cases hj : j < S.size
    · rw [if_pos hj, List.getElem?_drop, List.getElem?_eq_getElem (l := c) (by omega), List.getElem?_eq_getElem (l := xs) (by omega)]
      have q1 := (hx2 _ _ (List.getElem?_eq_getElem (l := xs) (i := i * S.size + j) (by omega))).1
      have q2 := hv j _ (List.getElem?_eq_getElem (l := c) (by omega))
      rw [Nat.add_assoc] at q2
      rw [q1] at q2
      exact q2
    · rw [if_neg hj, List.getElem?_eq_none (by omega)]

theorem rd_of_row {S : Ty α} {p : Nat → Prop} {w : World} {base : Nat} {e : TypeId} {v : Value} {n : Nat} {xs : List Value} {l : List α} (h : w.ownsRow base e S.size v n xs) (hl : l.length = n)
    (hx : ∀ i x, l[i]? = some x → S.rd p w ((xs.drop (i * S.size)).take S.size) x) (hp : ∀ g, v.ownBlock = some g → p g) : (tSlice S).rd p w [v] l := by
  subst hl
  rcases h.2 with ⟨rfl, h0⟩ | ⟨g, cap, cur, rfl, hg, hh, hn, hc, hs, ht⟩
  · obtain rfl : l = [] := List.eq_nil_of_length_eq_zero h0
    exact ⟨none, 0, rfl, Nat.le_refl _, by decide, fun _ => rfl, fun h9 => by simp at h9⟩
  · refine ⟨_, cap, rfl, hn, hc, (fun e => by cases e), fun h0 => ⟨g, 0, rfl, hp g rfl, heap_lt hh, fun k x hk => ⟨_, hx k x hk, fun j u hu => ?_⟩⟩⟩
    have hu' := hu
    rw [List.getElem?_take] at hu'
    by_cases hj : j < S.size
    · rw [if_pos hj, List.getElem?_drop] at hu'
      have := h.cells (g := g) rfl _ _ hu'
      rw [Addr.add_lit, Nat.zero_add] at this
      rw [Nat.zero_add]
      exact this
    · rw [if_neg hj] at hu'; cases hu'
theorem at_of_row {S : Ty α} {w : World} {base : Nat} {e : TypeId} {v : Value} {n : Nat} {xs : List Value} {l : List α} (h : w.ownsRow base e S.size v n xs) (hl : l.length = n)
    (hx : ∀ i x, l[i]? = some x → S.at w ((xs.drop (i * S.size)).take S.size) x) : (tSlice S).at w [v] l := rd_of_row h hl hx (fun _ _ => trivial)
theorem Turns.sub {bs cs : List Nat} {w w' : World} (h : Turns bs w w') (hs : ∀ k ∈ bs, k ∈ cs) : Turns cs w w' := ⟨h.os, h.tape, h.output, h.size, fun k hk hn => h.block k hk (fun h' => hn (hs k h')), h.drawn⟩
theorem rd_turns {S : Ty α} {p : Nat → Prop} {bs : List Nat} {w w' : World} {cs : List Value} {x : α} (h : S.rd p w cs x) (t : Turns bs w w') (hp : ∀ k ∈ bs, ¬ p k) : S.at w' cs x :=
  S.keep h (fun k hk hl => ⟨trivial, t.block k hl (fun h' => hp k h' hk), Nat.lt_of_lt_of_le hl t.size⟩)

theorem chunk_left {xs ys : List Value} {n s i : Nat} (hl : xs.length = n * s) (hi : i < n) : ((xs ++ ys).drop (i * s)).take s = (xs.drop (i * s)).take s := chunk_append hl hi

/-- 'append(s, y)' to a slice without room: a new row, whose elements are those of the old one and y. -/
theorem wp_pushAt {P : Program} {o : Oper} {a : Act} {K : Act → World → Prop} {Q : Exit → Act → World → Prop} {w : World} (S : Ty α) (s x : Operand) (t : TypeId)
    (ho : o.op = .call { callee := .builtin .append, args := #[s, x], argTypes := #[t, t] })
    (e : TypeId) (i : TypeInfo) (z : Value) (bytes : Nat) (ht : P.underlying t = some (.slice e)) (hi : P.info? e = some i) (hz : i.zero = some z)
    (hsize : i.size = S.size) (hby : i.bytes = bytes) (hzs : z.cells.size = S.size) (hsz : 0 < S.size)
    {ao : Option Addr} {n : Nat} {l : List α} (hs : a.eval s = .slice ao n n) (hat : (tSlice S).at w [.slice ao n n] l)
    {N : Nat} (hx : a.eval x = .slice (some ⟨N, 0, none⟩) 1 1) {C : List Value} (hC : ∀ j u, C[j]? = some u → w.cell? ⟨N, j, none⟩ = some u) {y : α} (hy : S.at w C y) (hlen : Hid (n ≤ 2097152)) (hbytes : bytes ≤ 65536)
    (h : ∀ v' w', (tSlice S).at w' [v'] (l ++ [y]) → More w w' → K (a.put o.dst v') w') : Oper.wp P o a w K Q := by
  have hn := hlen.out
  have hb : (n + 1) * bytes ≤ 140737488355328 := by
    have := Nat.mul_le_mul (show n + 1 ≤ 2097153 by omega) hbytes
    omega
  have hml : l.length = n := by
    obtain ⟨ao', cap', h0, _⟩ := slRd_at hat
    simp at h0
    exact h0.2.1.symm
  have hyl := S.len hy
  have hCN : ∀ j u, C[j]? = some u → w.cell? ((⟨N, 0, none⟩ : Addr).add j) = some u := fun j u hu => by rw [Addr.add_lit, Nat.zero_add]; exact hC j u hu
  have hrun : ∃ xs v' w', (Builtin.append_ #[t, t] o.type #[.slice ao n n, .slice (some ⟨N, 0, none⟩) 1 1]).run P w = .ok v' w' ∧ w'.ownsRow w.heap.size e S.size v' (n + 1) (xs ++ C) ∧ GrownD w w' none ∧ xs.length = n * S.size ∧ ∀ i x, l[i]? = some x → S.at w ((xs.drop (i * S.size)).take S.size) x := by
    obtain ⟨ao', cap', e0, _, _, h3, h4⟩ := slRd_at hat
    simp at e0
    obtain ⟨rfl, rfl, rfl⟩ := e0
    cases ao with
    | none =>
      obtain rfl : l = [] := List.eq_nil_of_length_eq_zero (h3 rfl)
      obtain ⟨v', w', hr, r1, r2, _⟩ := run_append_own (P := P) w w.heap.size t o.type e i z S.size bytes ht hi hz hsize hby hzs hsz (.slice none 0 0) 0 [] (World.ownsRow_nil w _ e _) ⟨N, 0, none⟩ 1 1 C (by rw [Nat.one_mul]; exact hyl) hCN (S.one hy) (by decide) (by simpa using hb) (Nat.le_refl _)
      exact ⟨[], v', w', hr, r1, r2, by simp, fun i x hx => by simp at hx⟩
    | some b =>
      have hxs : ∃ xs : List Value, xs.length = l.length * S.size ∧ (∀ j u, xs[j]? = some u → w.cell? (b.add j) = some u) ∧ ∀ i x, l[i]? = some x → S.at w ((xs.drop (i * S.size)).take S.size) x := by
        by_cases h0 : 0 < l.length
        · obtain ⟨b', off, e1, _⟩ := h4 h0
          cases e1
          obtain ⟨xs, q1, q2, _, q4⟩ := at_cells hsz hat
          exact ⟨xs, q1, fun j u hu => by rw [Addr.add_lit]; exact q2 j u hu, q4⟩
        · have h1 : l.length = 0 := by omega
          exact ⟨[], by simp [h1], fun j u hu => by simp at hu, fun i x hx => by rw [List.eq_nil_of_length_eq_zero h1] at hx; simp at hx⟩
      obtain ⟨xs, q1, q2, q4⟩ := hxs
      obtain ⟨v', w', hr, r1, r2⟩ := run_append_arg_grows (P := P) w t o.type e i z S.size bytes ht hi hz hsize hby hzs hsz b l.length l.length xs q1 q2 ⟨N, 0, none⟩ 1 1 C (by rw [Nat.one_mul]; exact hyl) hCN (by omega) (by unfold maxLen; omega) hb
      exact ⟨xs, v', w', hr, r1, r2, q1, q4⟩
  obtain ⟨xs, v', w', hr, r1, r2, hl1, hl3⟩ := hrun
  have hm3 : More w w' := Turns.more (⟨r2.os, r2.tape, r2.output, r2.size, fun k hk _ => r2.block k hk (by simp), r2.drawn⟩ : Turns [] _ _)
  unfold Oper.wp execOp
  simp only [ho, resolve, invoke, builtin, Sem.run_bind, Sem.run_pure, Result.andThen_ok, List.map_toArray, List.map_cons, List.map_nil, hs, hx, hr]
  refine h v' w' (at_of_row r1 (by simp [hml]) fun i x hx => ?_) hm3
  by_cases hil : i < l.length
  · rw [List.getElem?_append_left hil] at hx
    rw [chunk_append hl1 (by omega)]
    exact Ty.at_more (hl3 i x hx) hm3
  · rw [List.getElem?_append_right (by omega)] at hx
    obtain rfl : i = l.length := by
      have := (List.getElem?_eq_some_iff.1 hx).1
      simp at this; omega
    simp at hx
    subst hx
    rw [hml, chunk_last hl1 hyl]
    exact Ty.at_more hy hm3
theorem step_pushAt {P : Program} {ops : Array Oper} {o : Oper} {a : Act} {K : Act → World → Prop} {Q : Exit → Act → World → Prop} {w : World} {E : Prop} (S : Ty α) (hgd : o.guard = none) (s x : Operand) (t : TypeId)
    (ho : o.op = .call { callee := .builtin .append, args := #[s, x], argTypes := #[t, t] })
    (e : TypeId) (i : TypeInfo) (z : Value) (bytes : Nat) (ht : P.underlying t = some (.slice e)) (hi : P.info? e = some i) (hz : i.zero = some z)
    (hsize : i.size = S.size) (hby : i.bytes = bytes) (hzs : z.cells.size = S.size) (hsz : 0 < S.size)
    {ao : Option Addr} {n : Nat} {l : List α} (hs : a.eval s = .slice ao n n) (hat : (tSlice S).at w [.slice ao n n] l)
    {N : Nat} (hx : a.eval x = .slice (some ⟨N, 0, none⟩) 1 1) {C : List Value} (hC : ∀ j u, C[j]? = some u → w.cell? ⟨N, j, none⟩ = some u) {y : α} (hy : S.at w C y) (hlen : Hid (n ≤ 2097152)) (hbytes : bytes ≤ 65536)
    (h : ∀ v' w', (tSlice S).at w' [v'] (l ++ [y]) → More w w' → K (a.put o.dst v') w') :
    if Region.wanted o (yielded ops a.tmps) = true then Oper.wp P o a w K Q else E := by
  have hw : Region.wanted o (yielded ops a.tmps) = true := by simp [Region.wanted, hgd]
  rw [if_pos hw]
  exact wp_pushAt S s x t ho e i z bytes ht hi hz hsize hby hzs hsz hs hat hx hC hy hlen hbytes h

/-- 'append(s, y)' to a list of the call's own: the new list is read; at most the list's own row has turned. -/
theorem wp_pushNew {P : Program} {o : Oper} {a : Act} {K : Act → World → Prop} {Q : Exit → Act → World → Prop} {w : World} (S : Ty α) (s x : Operand) (t : TypeId)
    (ho : o.op = .call { callee := .builtin .append, args := #[s, x], argTypes := #[t, t] })
    (e : TypeId) (i : TypeInfo) (z : Value) (bytes : Nat) (ht : P.underlying t = some (.slice e)) (hi : P.info? e = some i) (hz : i.zero = some z)
    (hsize : i.size = S.size) (hby : i.bytes = bytes) (hzs : z.cells.size = S.size) (hsz : 0 < S.size)
    {B Y : Nat} {w0 : World} {v : Value} {l : List α} (hs : a.eval s = v) (hlist : ListOwn S B e w0 v l) (hm0 : More w0 w) (hB0 : B ≤ w0.heap.size)
    {N : Nat} (hx : a.eval x = .slice (some ⟨N, 0, none⟩) 1 1) {C : List Value} (hC : ∀ j u, C[j]? = some u → w.cell? ⟨N, j, none⟩ = some u) {y : α} (hy : S.fresh Y w C y) (hY : w0.heap.size ≤ Y ∧ Y ≤ w.heap.size) (hlen : Hid (l.length ≤ 2097152)) (hbytes : bytes ≤ 65536)
    (h : ∀ v' w', (tSlice S).rd (fun k => B ≤ k ∧ (k < w0.heap.size ∨ Y ≤ k)) w' [v'] (l ++ [y]) → Turns v.ownBlock.toList w w' → (∀ W0 : World, W0.heap.size ≤ B → More W0 w → More W0 w') → K (a.put o.dst v') w') : Oper.wp P o a w K Q := by
  have hn : (l.length + 1) * bytes ≤ 140737488355328 := by
    have := Nat.mul_le_mul (show l.length + 1 ≤ 2097153 by have := hlen.out; omega) hbytes
    omega
  have hm : l.length + 1 ≤ maxLen := by have := hlen.out; unfold maxLen; omega
  obtain ⟨xs, bss, h1, h2, h3, h4, h5⟩ := hlist
  have hat := Ty.fresh_at hy
  have hyl := S.len hat
  have hw0 := hm0.size
  have hB : B ≤ w.heap.size := Nat.le_trans hB0 hw0
  obtain ⟨v', w', hr, r1, r2, r3⟩ := app_block (P := P) w B t o.type e i z S.size bytes ht hi hz hsize hby hzs hsz v l.length xs (ownsRow_more h1 hm0) ⟨N, 0, none⟩ 1 1 C (by rw [Nat.one_mul]; exact hyl) (fun j u hu => by rw [Addr.add_lit, Nat.zero_add]; exact hC j u hu) (S.one hat) hm hn hB (by decide)
  have T : Turns v.ownBlock.toList w w' := ⟨r2.os, r2.tape, r2.output, r2.size, fun k hk hn' => r2.block k hk (fun e => hn' (by rw [← e]; simp)), r2.drawn⟩
  unfold Oper.wp execOp
  simp only [ho, resolve, invoke, builtin, Sem.run_bind, Sem.run_pure, Result.andThen_ok, List.map_toArray, List.map_cons, List.map_nil, hs, hx, hr]
  refine h v' w' (rd_of_row r1 (by simp) (fun k x' hx' => ?_) fun g hg => ?_) T fun W0 hW0 hmw => ?_
  · by_cases hil : k < l.length
    · rw [List.getElem?_append_left hil] at hx'
      rw [chunk_append h1.1 hil]
      have ho := h5 k x' _ hx' (List.getElem?_eq_getElem (by omega))
      refine S.keep (S.own_rd (Ty.own_turns (Ty.own_more ho hm0) T (fun b hb hb2 => ?_))) (fun b hb hl => ⟨⟨(h4 b (List.mem_flatten.2 ⟨_, List.getElem_mem _, hb⟩)).1, .inl (S.own_lt ho b hb)⟩, rfl, hl⟩)
      have hfl : b ∈ bss.flatten := List.mem_flatten.2 ⟨_, List.getElem_mem _, hb⟩
      have := (h4 b hfl).2
      cases hv : v.ownBlock with
      | none => rw [hv] at hb2; simp at hb2
      | some g => rw [hv] at hb2 this; simp at hb2; subst hb2; exact this rfl
    · rw [List.getElem?_append_right (by omega)] at hx'
      obtain rfl : k = l.length := by
        have := (List.getElem?_eq_some_iff.1 hx').1
        simp at this; omega
      simp at hx'
      subst hx'
      rw [chunk_last h1.1 hyl]
      obtain ⟨bs, p1, p2, p3⟩ := hy
      refine S.keep (S.own_rd (Ty.own_turns p1 T (fun b hb hb2 => ?_))) (fun b hb hl => ⟨⟨by have := p3 b hb; omega, .inr (p3 b hb)⟩, rfl, hl⟩)
      have := p3 b hb
      cases hv : v.ownBlock with
      | none => rw [hv] at hb2; simp at hb2
      | some g => rw [hv] at hb2; simp at hb2; subst hb2; have := (ownsRow_lt h1 hv).2; omega
  · rcases r3 with r3 | r3
    · rw [r3] at hg
      exact ⟨(ownsRow_lt h1 hg).1, .inl (ownsRow_lt h1 hg).2⟩
    · rw [r3] at hg
      cases hg
      exact ⟨hB, .inr hY.2⟩
  · refine More.turn hmw T (fun k hk => ?_)
    cases hv : v.ownBlock with
    | none => rw [hv] at hk; simp at hk
    | some g => rw [hv] at hk; simp at hk; rw [hk]; exact Nat.le_trans hW0 (ownsRow_lt h1 hv).1
theorem step_pushNew {P : Program} {ops : Array Oper} {o : Oper} {a : Act} {K : Act → World → Prop} {Q : Exit → Act → World → Prop} {w : World} {E : Prop} (S : Ty α) (hgd : o.guard = none) (s x : Operand) (t : TypeId)
    (ho : o.op = .call { callee := .builtin .append, args := #[s, x], argTypes := #[t, t] })
    (e : TypeId) (i : TypeInfo) (z : Value) (bytes : Nat) (ht : P.underlying t = some (.slice e)) (hi : P.info? e = some i) (hz : i.zero = some z)
    (hsize : i.size = S.size) (hby : i.bytes = bytes) (hzs : z.cells.size = S.size) (hsz : 0 < S.size)
    {B Y : Nat} {w0 : World} {v : Value} {l : List α} (hs : a.eval s = v) (hlist : ListOwn S B e w0 v l) (hm0 : More w0 w) (hB0 : B ≤ w0.heap.size)
    {N : Nat} (hx : a.eval x = .slice (some ⟨N, 0, none⟩) 1 1) {C : List Value} (hC : ∀ j u, C[j]? = some u → w.cell? ⟨N, j, none⟩ = some u) {y : α} (hy : S.fresh Y w C y) (hY : w0.heap.size ≤ Y ∧ Y ≤ w.heap.size) (hlen : Hid (l.length ≤ 2097152)) (hbytes : bytes ≤ 65536)
    (h : ∀ v' w', (tSlice S).rd (fun k => B ≤ k ∧ (k < w0.heap.size ∨ Y ≤ k)) w' [v'] (l ++ [y]) → Turns v.ownBlock.toList w w' → (∀ W0 : World, W0.heap.size ≤ B → More W0 w → More W0 w') → K (a.put o.dst v') w') :
    if Region.wanted o (yielded ops a.tmps) = true then Oper.wp P o a w K Q else E := by
  have hw : Region.wanted o (yielded ops a.tmps) = true := by simp [Region.wanted, hgd]
  rw [if_pos hw]
  exact wp_pushNew S s x t ho e i z bytes ht hi hz hsize hby hzs hsz hs hlist hm0 hB0 hx hC hy hY hlen hbytes h
theorem one_cell {w : World} {N : Nat} {v : Value} (h : w.cell? ⟨N, 0, none⟩ = some v) : ∀ j u, [v][j]? = some u → w.cell? ⟨N, j, none⟩ = some u := by
  intro j u hu
  cases j with
  | zero => simp at hu; subst hu; exact h
  | succ j => simp at hu
end Go.Proofs.Ytnbefpfijaimjaa
