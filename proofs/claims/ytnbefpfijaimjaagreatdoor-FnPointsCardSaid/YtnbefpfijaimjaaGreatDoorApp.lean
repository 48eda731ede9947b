/- Rows of flat elements: one whole list appended to another one. It speaks of no program. -/
import Derived.Test.YtnbefpfijaimjaaGreatDoorGBase
import Derived.Laws.AppendOwn
import Derived.Laws.AppendOwnNone
namespace Go.Proofs.YtnbefpfijaimjaaGreatDoor
open Go.RowKit
variable {α : Type}

/-- Element j of the cells of a list of flat elements. -/
theorem flatMap_at {f : α → List Value} {s : Nat} (hs : 0 < s) (l : List α) (h : ∀ x ∈ l, (f x).length = s) (j : Nat) (u : Value) (hu : (l.flatMap f)[j]? = some u) :
    ∃ x, l[j / s]? = some x ∧ (f x)[j % s]? = some u := by
  have hlen := length_flatMap_chunk l h
  have hj : j < l.length * s := by
    have := (List.getElem?_eq_some_iff.1 hu).1
    omega
  have hk : j / s < l.length := by rw [Nat.div_lt_iff_lt_mul hs]; exact hj
  refine ⟨l[j / s], List.getElem?_eq_getElem hk, ?_⟩
  have h1 := flatMap_chunk l h (j / s) _ (List.getElem?_eq_getElem hk)
  rw [← h1, List.getElem?_take, if_pos (Nat.mod_lt _ hs), List.getElem?_drop, Nat.mul_comm, Nat.div_add_mod]
  exact hu
theorem flat_cells {S : Ty α} (F : Flat S) (hs : 0 < S.size) {w : World} {ao : Option Addr} {n cap : Nat} {l : List α} (h : (tSlice S).at w [.slice ao n cap] l) (hl : 0 < l.length) :
    ∃ b off, ao = some ⟨b, off, none⟩ ∧ b < w.heap.size ∧ ∀ j u, (l.flatMap F.enc)[j]? = some u → w.cell? ⟨b, off + j, none⟩ = some u := by
  obtain ⟨ao', cap', h0, _, _, _, h4⟩ := slRd_at h
  simp at h0
  obtain ⟨rfl, rfl, rfl⟩ := h0
  obtain ⟨b, off, rfl, _, hb, he⟩ := h4 hl
  refine ⟨b, off, rfl, hb, fun j u hu => ?_⟩
  obtain ⟨x, hx, hxu⟩ := flatMap_at hs l (fun x hx => by
    obtain ⟨i, hi⟩ := List.mem_iff_getElem?.1 hx
    exact F.len (he.flat F hi).1) j u hu
  have h1 := (he.flat F hx).2 _ _ hxu
  rwa [Nat.add_assoc, Nat.mul_comm, Nat.div_add_mod] at h1
theorem flat_oks {S : Ty α} (F : Flat S) {w : World} {v : Value} {l : List α} (h : (tSlice S).at w [v] l) : ∀ x ∈ l, F.ok x := by
  obtain ⟨ao, cap, rfl, _, _, _, h4⟩ := slRd_at h
  intro x hx
  obtain ⟨i, hi⟩ := List.mem_iff_getElem?.1 hx
  obtain ⟨b, off, rfl, _, hb, he⟩ := h4 (by have := (List.getElem?_eq_some_iff.1 hi).1; omega)
  exact (he.flat F hi).1

/-- A row of the call's own that holds a list of flat elements. -/
def FlatOwn {S : Ty α} (F : Flat S) (B : Nat) (e : TypeId) (w : World) (v : Value) (l : List α) : Prop := w.ownsRow B e S.size v l.length (l.flatMap F.enc) ∧ ∀ x ∈ l, F.ok x
theorem FlatOwn.fresh {S : Ty α} {F : Flat S} {B : Nat} {e : TypeId} {w : World} {v : Value} {l : List α} (h : FlatOwn F B e w v l) : (tSlice S).fresh B w [v] l := fresh_of_row F h.1 h.2
theorem FlatOwn.at {S : Ty α} {F : Flat S} {B : Nat} {e : TypeId} {w : World} {v : Value} {l : List α} (h : FlatOwn F B e w v l) : (tSlice S).at w [v] l := Ty.fresh_at h.fresh
theorem FlatOwn.more {S : Ty α} {F : Flat S} {B : Nat} {e : TypeId} {w w' : World} {v : Value} {l : List α} (h : FlatOwn F B e w v l) (hm : More w w') : FlatOwn F B e w' v l := ⟨ownsRow_more h.1 hm, h.2⟩
theorem FlatOwn.lit {S : Ty α} {F : Flat S} {B : Nat} {e : TypeId} {w : World} (hB : B ≤ w.heap.size) : FlatOwn F B e (w.alloc (.cells #[] e)) (.slice (some ⟨w.heap.size, 0, none⟩) 0 0) [] :=
  ⟨World.ownsRow_lit (size := S.size) w #[] 0 hB (by simp) (by simp), by simp⟩
theorem FlatOwn.lit1 {S : Ty α} {F : Flat S} {B : Nat} {e : TypeId} {w : World} {C : Array Value} {x : α} (hB : B ≤ w.heap.size) (hC : C.toList = F.enc x) (ho : F.ok x) : FlatOwn F B e (w.alloc (.cells C e)) (.slice (some ⟨w.heap.size, 0, none⟩) 1 1) [x] := by
  refine ⟨?_, by simpa using ho⟩
  have hl := F.len ho
  have h := World.ownsRow_lit (base := B) (e := e) (size := S.size) w C 1 hB (by decide) (by rw [Nat.one_mul, ← hl, ← hC]; simp)
  simpa [hC] using h
theorem FlatOwn.none {S : Ty α} {F : Flat S} {B : Nat} {e : TypeId} {w : World} : FlatOwn F B e w (.slice none 0 0) [] := ⟨World.ownsRow_nil _ _ _ _, by simp⟩
theorem FlatOwn.made {S : Ty α} {F : Flat S} {B : Nat} {e : TypeId} {w : World} {v : Value} (h : w.ownsRow B e S.size v 0 []) : FlatOwn F B e w v [] := ⟨h, by simp⟩
theorem FlatOwn.len {S : Ty α} {F : Flat S} {B : Nat} {e : TypeId} {w : World} {v : Value} {l : List α} (h : FlatOwn F B e w v l) : ∃ ao cap, v = .slice ao l.length cap := sl_len h.at

/-- 'append(out, xs...)'. -/
theorem wp_appAllT {P : Program} {o : Oper} {a : Act} {K : Act → World → Prop} {Q : Exit → Act → World → Prop} {w : World} {S : Ty α} (F : Flat S) (w0 : World) (s x : Operand) (t : TypeId)
    (ho : o.op = .call { callee := .builtin .append, args := #[s, x], argTypes := #[t, t] })
    (B : Nat) (e : TypeId) (i : TypeInfo) (z : Value) (bytes : Nat) (ht : P.underlying t = some (.slice e)) (hi : P.info? e = some i) (hz : i.zero = some z)
    (hsize : i.size = S.size) (hby : i.bytes = bytes) (hzs : z.cells.size = S.size) (hsz : 0 < S.size)
    {v : Value} {l : List α} (hs : a.eval s = v) (hlist : FlatOwn F B e w0 v l) (hmore : More w0 w)
    {u : Value} {m : List α} (hx : a.eval x = u) (hm : (tSlice S).at w [u] m) (hlen : Hid (l.length + m.length ≤ 4194304)) (hbytes : bytes ≤ 65536) (hB : Hid (B ≤ w0.heap.size))
    (h : ∀ v' w', FlatOwn F B e w' v' (l ++ m) → (∀ W : World, W.heap.size ≤ B → More W w → More W w') → (∀ b o' u', w0.heap.size ≤ b → b < w.heap.size → w.cell? ⟨b, o', none⟩ = some u' → w'.cell? ⟨b, o', none⟩ = some u') → K (a.put o.dst v') w') :
    o.wp P a w K Q := by
  obtain ⟨h1, h1o⟩ := hlist
  have hB := hB.out
  have hlen := hlen.out
  have hoks := flat_oks F hm
  have h1' := ownsRow_more h1 hmore
  obtain ⟨ao, cap, rfl, k1, k2, k3, k4⟩ := slRd_at hm
  have hn : (l.length + m.length) * bytes ≤ 140737488355328 := by
    have := Nat.mul_le_mul hlen hbytes
    omega
  have hcl : ∀ w' : World, GrownD w w' v.ownBlock → ∀ b o' u', w0.heap.size ≤ b → b < w.heap.size → w.cell? ⟨b, o', none⟩ = some u' → w'.cell? ⟨b, o', none⟩ = some u' := by
    intro w' r2 b o' u' h0 hb hc
    refine cell_heap hc (r2.block b hb (fun e => ?_))
    have := (ownsRow_lt h1 e.symm).2
    omega
  have hmw : ∀ W w' : World, W.heap.size ≤ B → More W w → GrownD w w' v.ownBlock → More W w' := by
    intro W w' hW hWm r2
    refine Turns.more (Turns.grown (hWm.turns []) r2 (fun k hk => .inr (Nat.le_trans hW (ownsRow_lt h1 hk).1)))
  by_cases hm0 : 0 < m.length
  · obtain ⟨b, off, rfl, hb, hc⟩ := flat_cells F hsz hm hm0
    refine wp_append_own w s x t ho B e i z S.size bytes ht hi hz hsize hby hzs hsz v l.length _ hs h1' ⟨b, off, none⟩ m.length cap (m.flatMap F.enc) hx (length_flatMap_chunk m (fun y hy => F.len (hoks y hy))) (fun j q hq => ?_) ?_ (by unfold maxLen; omega) hn (Nat.le_trans hB hmore.size) (fun v' w' r1 r2 r3 => ?_)
    · rw [Addr.add_lit]
      exact hc j q hq
    · intro q hq
      obtain ⟨y, hy, hyq⟩ := List.mem_flatMap.1 hq
      exact S.one ((F.rd_iff (fun _ => True) w _ _).2 ⟨rfl, hoks y hy⟩) q hyq
    · refine h v' w' ⟨by rw [List.length_append, List.flatMap_append]; exact r1, fun y hy => ?_⟩ (fun W hW hWm => hmw W w' hW hWm r2) (hcl w' r2)
      rcases List.mem_append.1 hy with hy | hy
      · exact h1o y hy
      · exact hoks y hy
  · have hm' : m = [] := List.eq_nil_of_length_eq_zero (by omega)
    subst hm'
    cases ao with
    | none =>
      have hc0 : cap = 0 := k3 rfl
      subst hc0
      have hrun := run_append_owned_none (P := P) (w := w) B t o.type e i S.size ht hi v l.length _ h1'
      unfold Oper.wp
      simp [execOp, ho, resolve, invoke, builtin, hs, hx, hrun, Result.andThen]
      exact h v w ⟨by rw [List.append_nil]; exact h1', by rw [List.append_nil]; exact h1o⟩ (fun W hW hWm => hWm) (fun _ _ _ _ _ hc => hc)
    | some ad =>
      refine wp_append_own w s x t ho B e i z S.size bytes ht hi hz hsize hby hzs hsz v l.length _ hs h1' ad 0 cap [] hx (by simp) (by simp) (by simp) (by unfold maxLen; omega) (by simpa using hn) (Nat.le_trans hB hmore.size) (fun v' w' r1 r2 r3 => ?_)
      exact h v' w' ⟨by simpa using r1, by rw [List.append_nil]; exact h1o⟩ (fun W hW hWm => hmw W w' hW hWm r2) (hcl w' r2)
theorem wp_appAll {P : Program} {o : Oper} {a : Act} {K : Act → World → Prop} {Q : Exit → Act → World → Prop} {w : World} {S : Ty α} (F : Flat S) (w0 : World) (s x : Operand) (t : TypeId)
    (ho : o.op = .call { callee := .builtin .append, args := #[s, x], argTypes := #[t, t] })
    (B : Nat) (e : TypeId) (i : TypeInfo) (z : Value) (bytes : Nat) (ht : P.underlying t = some (.slice e)) (hi : P.info? e = some i) (hz : i.zero = some z)
    (hsize : i.size = S.size) (hby : i.bytes = bytes) (hzs : z.cells.size = S.size) (hsz : 0 < S.size)
    {v : Value} {l : List α} (hs : a.eval s = v) (hlist : FlatOwn F B e w0 v l) (hmore : More w0 w)
    {u : Value} {m : List α} (hx : a.eval x = u) (hm : (tSlice S).at w [u] m) (hlen : Hid (l.length + m.length ≤ 4194304)) (hbytes : bytes ≤ 65536) (hB : Hid (B ≤ w0.heap.size))
    (h : ∀ v' w', FlatOwn F B e w' v' (l ++ m) → (∀ W : World, W.heap.size ≤ B → More W w → More W w') → K (a.put o.dst v') w') :
    o.wp P a w K Q := 
  wp_appAllT F w0 s x t ho B e i z bytes ht hi hz hsize hby hzs hsz hs hlist hmore hx hm hlen hbytes hB (fun v' w' r1 r2 _ => h v' w' r1 r2)
theorem wpList_appAll {P : Program} {ops : Array Oper} {rest : List Oper} {o : Oper} {a : Act} {Q : Exit → Act → World → Prop} {w : World} {S : Ty α} (F : Flat S) (w0 : World) (hgd : o.guard = none) (s x : Operand) (t : TypeId)
    (ho : o.op = .call { callee := .builtin .append, args := #[s, x], argTypes := #[t, t] })
    (B : Nat) (e : TypeId) (i : TypeInfo) (z : Value) (bytes : Nat) (ht : P.underlying t = some (.slice e)) (hi : P.info? e = some i) (hz : i.zero = some z)
    (hsize : i.size = S.size) (hby : i.bytes = bytes) (hzs : z.cells.size = S.size) (hsz : 0 < S.size)
    {v : Value} {l : List α} (hs : a.eval s = v) (hlist : FlatOwn F B e w0 v l) (hmore : More w0 w)
    {u : Value} {m : List α} (hx : a.eval x = u) (hm : (tSlice S).at w [u] m) (hlen : Hid (l.length + m.length ≤ 4194304)) (hbytes : bytes ≤ 65536) (hB : Hid (B ≤ w0.heap.size))
    (h : ∀ v' w', FlatOwn F B e w' v' (l ++ m) → (∀ W : World, W.heap.size = B → More W w → More W w') → wpList P ops Q rest (a.put o.dst v') w') :
    wpList P ops Q (o :: rest) a w :=
  wpList_plain hgd fun _ hK => wp_appAll F w0 s x t ho B e i z bytes ht hi hz hsize hby hzs hsz hs hlist hmore hx hm hlen hbytes hB (fun v' w' r1 r2 => hK _ _ (h v' w' r1 (fun W hW => r2 W (Nat.le_of_eq hW))))
/-- .. as one step of a region that draws. -/
theorem step_appAll {P : Program} {ops : Array Oper} {o : Oper} {a : Act} {K : Act → World → Prop} {Q : Exit → Act → World → Prop} {w : World} {E : Prop} {S : Ty α} (F : Flat S) (w0 : World) (hgd : o.guard = none) (s x : Operand) (t : TypeId)
    (ho : o.op = .call { callee := .builtin .append, args := #[s, x], argTypes := #[t, t] })
    (B : Nat) (e : TypeId) (i : TypeInfo) (z : Value) (bytes : Nat) (ht : P.underlying t = some (.slice e)) (hi : P.info? e = some i) (hz : i.zero = some z)
    (hsize : i.size = S.size) (hby : i.bytes = bytes) (hzs : z.cells.size = S.size) (hsz : 0 < S.size)
    {v : Value} {l : List α} (hs : a.eval s = v) (hlist : FlatOwn F B e w0 v l) (hmore : More w0 w)
    {u : Value} {m : List α} (hx : a.eval x = u) (hm : (tSlice S).at w [u] m) (hlen : Hid (l.length + m.length ≤ 4194304)) (hbytes : bytes ≤ 65536) (hB : Hid (B ≤ w0.heap.size))
    (h : ∀ v' w', FlatOwn F B e w' v' (l ++ m) → (∀ W : World, W.heap.size ≤ B → More W w → More W w') → K (a.put o.dst v') w') :
    if Region.wanted o (yielded ops a.tmps) = true then Oper.wp P o a w K Q else E := by
  have hw : Region.wanted o (yielded ops a.tmps) = true := by simp [Region.wanted, hgd]
  rw [if_pos hw]
  exact wp_appAll F w0 s x t ho B e i z bytes ht hi hz hsize hby hzs hsz hs hlist hmore hx hm hlen hbytes hB h

/-- 'append([]T{}, xs...)': a copy in new memory (nothing where xs is empty). -/
theorem wp_copyAll {P : Program} {o : Oper} {a : Act} {K : Act → World → Prop} {Q : Exit → Act → World → Prop} {w : World} {S : Ty α} (F : Flat S) (s x : Operand) (t : TypeId)
    (ho : o.op = .call { callee := .builtin .append, args := #[s, x], argTypes := #[t, t] })
    (e : TypeId) (i : TypeInfo) (z : Value) (bytes : Nat) (ht : P.underlying t = some (.slice e)) (hi : P.info? e = some i) (hz : i.zero = some z)
    (hsize : i.size = S.size) (hby : i.bytes = bytes) (hzs : z.cells.size = S.size) (hsz : 0 < S.size)
    {g : Addr} (hs : a.eval s = .slice (some g) 0 0)
    {u : Value} {m : List α} (hx : a.eval x = u) (hm : (tSlice S).at w [u] m) (hlen : Hid (m.length ≤ 2097152)) (hbytes : bytes ≤ 65536)
    (h : ∀ v' w', (tSlice S).fresh w.heap.size w' [v'] m → More w w' → K (a.put o.dst v') w') :
    o.wp P a w K Q := by
  have hlen := hlen.out
  have hoks := flat_oks F hm
  obtain ⟨ao, cap, rfl, k1, k2, k3, k4⟩ := slRd_at hm
  have hn : m.length * bytes ≤ 140737488355328 := by
    have := Nat.mul_le_mul hlen hbytes
    omega
  by_cases hm0 : 0 < m.length
  · obtain ⟨b, off, rfl, hb, hc⟩ := flat_cells F hsz hm hm0
    have hl : (m.flatMap F.enc).length = m.length * i.size := by rw [hsize]; exact length_flatMap_chunk m (fun y hy => F.len (hoks y hy))
    have hcells : ∀ j q, (m.flatMap F.enc)[j]? = some q → w.cell? ((⟨b, off, none⟩ : Addr).add j) = some q := fun j q hq => by rw [Addr.add_lit]; exact hc j q hq
    have hones : ∀ q ∈ m.flatMap F.enc, q.oneCell' = true := by
      intro q hq
      obtain ⟨y, hy, hyq⟩ := List.mem_flatMap.1 hq
      exact S.one ((F.rd_iff (fun _ => True) w _ _).2 ⟨rfl, hoks y hy⟩) q hyq
    obtain ⟨v', w', hr, r1, r2, _⟩ := run_append_own (P := P) w w.heap.size t o.type e i z S.size bytes ht hi hz hsize hby hzs hsz (.slice none 0 0) 0 [] (World.ownsRow_nil _ _ _ _) ⟨b, off, none⟩ m.length cap (m.flatMap F.enc) (by rw [← hsize]; exact hl) hcells hones (by unfold maxLen; omega) (by simpa using hn) (Nat.le_refl _)
    have hnil := run_append_nil (P := P) w t o.type e i z ht hi hz ⟨b, off, none⟩ m.length cap _ hl hcells hm0 (by omega) (by rw [hby]; omega)
    rw [hnil] at hr
    have hg := run_append_grow (P := P) w t o.type e i z ht hi hz g 0 0 [] (by simp) (by simp) ⟨b, off, none⟩ m.length cap _ hl hcells (by omega) (by omega) (growslice_fits (by omega) (by rw [hby]; simpa using hn))
    have hg' : (Builtin.append_ #[t, t] o.type #[.slice (some g) 0 0, .slice (some ⟨b, off, none⟩) m.length cap]).run P w = .ok v' w' := by
      rw [← hr, hg]
      simp
    unfold Oper.wp
    simp only [execOp, ho, resolve, invoke, builtin, Sem.run_bind, Sem.run_pure, Result.andThen_ok, List.map_toArray, List.map_cons, List.map_nil, hs, hx, hg']
    refine h v' w' (FlatOwn.fresh (e := e) (F := F) ⟨by simpa using r1, hoks⟩) (Turns.more (Turns.grown ((Turns.refl _ _)) r2 (fun k hk => by simp [Value.ownBlock] at hk)))
  · have hm' : m = [] := List.eq_nil_of_length_eq_zero (by omega)
    subst hm'
    have hg' : (Builtin.append_ #[t, t] o.type #[.slice (some g) 0 0, .slice ao 0 cap]).run P w = .ok (.slice (some g) 0 0) w := by
      cases ao with
      | none =>
        have hc0 : cap = 0 := k3 rfl
        subst hc0
        simp [Builtin.append_, run_underlying ht, sizeOf, typeInfo, zeroValue, hi, hz, Builtin.lenOf, Question.forced, run_firstCells_none, storeCells]
      | some ad =>
        have hf := run_firstCells_some (P := P) w i.size 0 ad 0 cap [] (by simp) (by simp)
        simp [Builtin.append_, run_underlying ht, sizeOf, typeInfo, zeroValue, hi, hz, Builtin.lenOf, Question.forced, hf, storeCells]
    unfold Oper.wp
    simp only [execOp, ho, resolve, invoke, builtin, Sem.run_bind, Sem.run_pure, Result.andThen_ok, List.map_toArray, List.map_cons, List.map_nil, hs, hx, List.length_nil, hg']
    exact h _ w (empty_fresh (by unfold maxLen; omega)) (More.refl _)
theorem wpList_copyAll {P : Program} {ops : Array Oper} {rest : List Oper} {o : Oper} {a : Act} {Q : Exit → Act → World → Prop} {w : World} {S : Ty α} (F : Flat S) (hgd : o.guard = none) (s x : Operand) (t : TypeId)
    (ho : o.op = .call { callee := .builtin .append, args := #[s, x], argTypes := #[t, t] })
    (e : TypeId) (i : TypeInfo) (z : Value) (bytes : Nat) (ht : P.underlying t = some (.slice e)) (hi : P.info? e = some i) (hz : i.zero = some z)
    (hsize : i.size = S.size) (hby : i.bytes = bytes) (hzs : z.cells.size = S.size) (hsz : 0 < S.size)
    {g : Addr} (hs : a.eval s = .slice (some g) 0 0)
    {u : Value} {m : List α} (hx : a.eval x = u) (hm : (tSlice S).at w [u] m) (hlen : Hid (m.length ≤ 2097152)) (hbytes : bytes ≤ 65536)
    (h : ∀ v' w', (tSlice S).fresh w.heap.size w' [v'] m → More w w' → wpList P ops Q rest (a.put o.dst v') w') :
    wpList P ops Q (o :: rest) a w :=
  wpList_plain hgd fun _ hK => wp_copyAll F s x t ho e i z bytes ht hi hz hsize hby hzs hsz hs hx hm hlen hbytes (fun v' w' r1 r2 => hK _ _ (h v' w' r1 r2))
theorem step_copyAll {P : Program} {ops : Array Oper} {o : Oper} {a : Act} {K : Act → World → Prop} {Q : Exit → Act → World → Prop} {w : World} {E : Prop} {S : Ty α} (F : Flat S) (hgd : o.guard = none) (s x : Operand) (t : TypeId)
    (ho : o.op = .call { callee := .builtin .append, args := #[s, x], argTypes := #[t, t] })
    (e : TypeId) (i : TypeInfo) (z : Value) (bytes : Nat) (ht : P.underlying t = some (.slice e)) (hi : P.info? e = some i) (hz : i.zero = some z)
    (hsize : i.size = S.size) (hby : i.bytes = bytes) (hzs : z.cells.size = S.size) (hsz : 0 < S.size)
    {g : Addr} (hs : a.eval s = .slice (some g) 0 0)
    {u : Value} {m : List α} (hx : a.eval x = u) (hm : (tSlice S).at w [u] m) (hlen : Hid (m.length ≤ 2097152)) (hbytes : bytes ≤ 65536)
    (h : ∀ v' w', (tSlice S).fresh w.heap.size w' [v'] m → More w w' → K (a.put o.dst v') w') :
    if Region.wanted o (yielded ops a.tmps) = true then Oper.wp P o a w K Q else E := by
  have hw : Region.wanted o (yielded ops a.tmps) = true := by simp [Region.wanted, hgd]
  rw [if_pos hw]
  exact wp_copyAll F s x t ho e i z bytes ht hi hz hsize hby hzs hsz hs hx hm hlen hbytes h

/-- 'append(out, x)', x in a new block. -/
theorem wpList_pushFlat {P : Program} {ops : Array Oper} {rest : List Oper} {o : Oper} {a : Act} {Q : Exit → Act → World → Prop} {w : World} {C : Array Value} {te : TypeId} {S : Ty α} (F : Flat S) (w0 : World) (hgd : o.guard = none) (s x : Operand) (t : TypeId)
    (ho : o.op = .call { callee := .builtin .append, args := #[s, x], argTypes := #[t, t] })
    (B : Nat) (e : TypeId) (i : TypeInfo) (z : Value) (bytes : Nat) (ht : P.underlying t = some (.slice e)) (hi : P.info? e = some i) (hz : i.zero = some z)
    (hsize : i.size = S.size) (hby : i.bytes = bytes) (hzs : z.cells.size = S.size) (hsz : 0 < S.size)
    {v : Value} {l : List α} (hs : a.eval s = v) (hlist : FlatOwn F B e w0 v l) (hmore : More w0 w)
    {N : Nat} (hx : a.eval x = .slice (some ⟨N, 0, none⟩) 1 1) (hN : w.heap.size = N) {y : α} (hC : C.toList = F.enc y) (hy : F.ok y) (hlen : Hid (l.length ≤ 2097152)) (hbytes : bytes ≤ 65536) (hB : Hid (B ≤ w0.heap.size))
    (h : ∀ v' w', FlatOwn F B e w' v' (l ++ [y]) → (∀ W : World, W.heap.size = B → More W w → More W w') → wpList P ops Q rest (a.put o.dst v') w') :
    wpList P ops Q (o :: rest) a (w.alloc (.cells C te)) := by
  subst hN
  have hlen' := hlen.out
  refine wpList_appAll F w0 hgd s x t ho B e i z bytes ht hi hz hsize hby hzs hsz hs hlist (More.trans hmore (Turns.more ((Turns.refl [] w).alloc _))) hx (m := [y]) (FlatOwn.at (FlatOwn.lit1 (B := w.heap.size) (e := te) (Nat.le_refl _) hC hy)) (Lib.hid (by simp; omega)) hbytes hB (fun v' w' r1 r2 => h v' w' r1 (fun W hW hWm => r2 W hW (More.trans hWm (Turns.more ((Turns.refl [] w).alloc _)))))

theorem wpList_pushFlatT {P : Program} {ops : Array Oper} {rest : List Oper} {o : Oper} {a : Act} {Q : Exit → Act → World → Prop} {w : World} {C : Array Value} {te : TypeId} {S : Ty α} (F : Flat S) (w0 : World) (hgd : o.guard = none) (s x : Operand) (t : TypeId)
    (ho : o.op = .call { callee := .builtin .append, args := #[s, x], argTypes := #[t, t] })
    (B : Nat) (e : TypeId) (i : TypeInfo) (z : Value) (bytes : Nat) (ht : P.underlying t = some (.slice e)) (hi : P.info? e = some i) (hz : i.zero = some z)
    (hsize : i.size = S.size) (hby : i.bytes = bytes) (hzs : z.cells.size = S.size) (hsz : 0 < S.size)
    {v : Value} {l : List α} (hs : a.eval s = v) (hlist : FlatOwn F B e w0 v l) (hmore : More w0 w)
    {N : Nat} (hx : a.eval x = .slice (some ⟨N, 0, none⟩) 1 1) (hN : w.heap.size = N) {y : α} (hC : C.toList = F.enc y) (hy : F.ok y) (hlen : Hid (l.length ≤ 2097152)) (hbytes : bytes ≤ 65536) (hB : Hid (B ≤ w0.heap.size))
    (h : ∀ v' w', FlatOwn F B e w' v' (l ++ [y]) → (∀ W : World, W.heap.size = B → More W w → More W w') → (∀ b o' u', w0.heap.size ≤ b → b < w.heap.size → w.cell? ⟨b, o', none⟩ = some u' → w'.cell? ⟨b, o', none⟩ = some u') → wpList P ops Q rest (a.put o.dst v') w') :
    wpList P ops Q (o :: rest) a (w.alloc (.cells C te)) := by
  subst hN
  have hlen' := hlen.out
  refine wpList_plain hgd fun _ hK => wp_appAllT F w0 s x t ho B e i z bytes ht hi hz hsize hby hzs hsz hs hlist (More.trans hmore (Turns.more ((Turns.refl [] w).alloc _))) hx (m := [y]) (FlatOwn.at (FlatOwn.lit1 (B := w.heap.size) (e := te) (Nat.le_refl _) hC hy)) (Lib.hid (by simp; omega)) hbytes hB (fun v' w' r1 r2 r3 => hK _ _ (h v' w' r1 (fun W hW hWm => r2 W (Nat.le_of_eq hW) (More.trans hWm (Turns.more ((Turns.refl [] w).alloc _)))) (fun b o' u' h0 hb hc => r3 b o' u' h0 (by simp; omega) (Lib.cell?_alloc_some _ hc))))

/-- A prefix. -/
theorem sl_take {S : Ty α} {w : World} {ao : Option Addr} {n cap m : Nat} {l : List α} (h : (tSlice S).at w [.slice ao n cap] l) (hm : m ≤ n) : (tSlice S).at w [.slice ao m cap] (l.take m) := by
  obtain ⟨ao', cap', h0, k1, k2, k3, k4⟩ := slRd_at h
  simp at h0
  obtain ⟨rfl, rfl, rfl⟩ := h0
  have hl : (l.take m).length = m := by rw [List.length_take, Nat.min_eq_left hm]
  refine ⟨ao, cap, by rw [hl], by omega, k2, k3, fun h0 => ?_⟩
  obtain ⟨b, off, rfl, hp, hb, he⟩ := k4 (by omega)
  refine ⟨b, off, rfl, hp, hb, fun k x hx => he k x ?_⟩
  rw [List.getElem?_take] at hx
  split at hx
  · exact hx
  · cases hx

/-! ### A row of ints that is written at any place -/
def RowI (B : Nat) (e : TypeId) (w : World) (g n : Nat) (xs : List Int) : Prop := xs.length = n ∧ FlatOwn fInt B e w (.slice (some ⟨g, 0, none⟩) n n) xs
theorem flatMap_fInt (xs : List Int) : xs.flatMap fInt.enc = xs.map (Value.int .i64) := by
  induction xs with
  | nil => rfl
  | cons x xs ih => rw [List.flatMap_cons, ih]; rfl
theorem RowI.at {B : Nat} {e : TypeId} {w : World} {g n : Nat} {xs : List Int} (h : RowI B e w g n xs) : tInts.at w [.slice (some ⟨g, 0, none⟩) n n] xs := h.2.at
theorem RowI.fresh {B : Nat} {e : TypeId} {w : World} {g n : Nat} {xs : List Int} (h : RowI B e w g n xs) : tInts.fresh B w [.slice (some ⟨g, 0, none⟩) n n] xs := h.2.fresh
theorem RowI.more {B : Nat} {e : TypeId} {w w' : World} {g n : Nat} {xs : List Int} (h : RowI B e w g n xs) (hm : More w w') : RowI B e w' g n xs := ⟨h.1, h.2.more hm⟩
theorem RowI.made {B : Nat} {e : TypeId} {w : World} {g n : Nat} (h : w.ownsRow B e 1 (.slice (some ⟨g, 0, none⟩) n n) n (madeCells (Value.int .i64 0).cells (n * 1)).toList) : RowI B e w g n (List.replicate n 0) := by
  refine ⟨by simp, ?_, fun x hx => ?_⟩
  · rw [flatMap_fInt, List.length_replicate, List.map_replicate]
    have e1 : (madeCells (Value.int .i64 0).cells (n * 1)).toList = List.replicate n (Value.int .i64 0) := by
      have hl : (madeCells (Value.int .i64 0).cells (n * 1)).toList.length = n := by have := h.1; simpa using this
      apply List.ext_getElem?
      intro j
      by_cases hj : j < n
      · rw [List.getElem?_replicate, if_pos hj, List.getElem?_eq_getElem (by omega)]
        simp [madeCells, Value.cells, Nat.mod_one]
      · rw [List.getElem?_replicate, if_neg hj, List.getElem?_eq_none (by omega)]
    rw [e1] at h
    exact h
  · rw [(List.mem_replicate.1 hx).2]
    exact In64.small (by omega)
theorem RowI.get {B : Nat} {e : TypeId} {w : World} {g n : Nat} {xs : List Int} (h : RowI B e w g n xs) {k : Nat} (hk : k < n) :
    w.cell? ⟨g, k, none⟩ = some (.int .i64 (xs.getD k 0)) ∧ w.frozen? ⟨g, k, none⟩ = false ∧ B ≤ g ∧ g < w.heap.size := by
  obtain ⟨h1, h2, h3⟩ := h
  have hx : (xs.flatMap fInt.enc)[k]? = some (.int .i64 (xs.getD k 0)) := by
    rw [flatMap_fInt, List.getElem?_map, List.getD_eq_getElem?_getD, List.getElem?_eq_getElem (by omega)]
    rfl
  have h4 := ownsRow_lt h2 rfl
  refine ⟨?_, ?_, h4.1, h4.2⟩
  · have := h2.cells (g := g) rfl k _ hx
    rwa [Addr.add_lit, Nat.zero_add] at this
  · subst h1
    exact h2.frozenAt k
theorem RowI.set {B : Nat} {e : TypeId} {w : World} {g n : Nat} {xs : List Int} (h : RowI B e w g n xs) {k : Nat} (hk : k < n) {d : Int} (hd : In64 d) :
    RowI B e (w.setCell ⟨g, k, none⟩ (.int .i64 d)) g n (xs.set k d) := by
  obtain ⟨h1, h2, h3⟩ := h
  refine ⟨by simp [h1], ?_, fun x hx => ?_⟩
  · subst h1
    have := setCs_row [.int .i64 d] _ _ _ _ _ _ _ k _ h2
    rw [flatMap_fInt] at this ⊢
    rw [List.map_set, List.length_set]
    exact this
  · rcases List.mem_or_eq_of_mem_set hx with h | rfl
    · exact h3 x h
    · exact hd
end Go.Proofs.YtnbefpfijaimjaaGreatDoor
