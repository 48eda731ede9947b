/- A row of the call's own whose elements lie elsewhere: read, stored, cut; what slices.CompactFunc keeps of a list. It speaks of no program. -/
import Derived.Test.YtnbefpfijaimjaaRow
import Derived.Lib.SliceRun
namespace Go.Proofs.Ytnbefpfijaimjaa
open Go.RowKit
variable {α : Type}
structure RowR (S : Ty α) (g : Nat) (w : World) (R : List (List Value × α)) : Prop where
  cells : ∀ (j : Nat) (p : List Value × α), R[j]? = some p → ∀ (i : Nat) (u : Value), p.1[i]? = some u → w.cell? ⟨g, j * S.size + i, none⟩ = some u
  free : ∀ j, w.frozen? ⟨g, j, none⟩ = false
  rd : ∀ (j : Nat) (p : List Value × α), R[j]? = some p → S.rd (fun k => k ≠ g) w p.1 p.2
  lt : g < w.heap.size
theorem RowR.more {S : Ty α} {g : Nat} {w w' : World} {R : List (List Value × α)} (h : RowR S g w R) (hm : More w w') : RowR S g w' R :=
  ⟨fun j p hp i u hu => box_keep hm h.lt (h.cells j p hp i u hu), fun j => free_keep hm h.lt (h.free j), fun j p hp => S.keep (h.rd j p hp) (fun k hk hl => ⟨hk, hm.block k hl, Nat.lt_of_lt_of_le hl hm.size⟩), Nat.lt_of_lt_of_le h.lt hm.size⟩
theorem RowR.at {S : Ty α} {g : Nat} {w : World} {R : List (List Value × α)} (h : RowR S g w R) {m cap : Nat} (hm : m ≤ R.length) (hc : m ≤ cap) (hx : cap ≤ maxLen) : (tSlice S).at w [.slice (some ⟨g, 0, none⟩) m cap] ((R.take m).map Prod.snd) := by
  have hl : ((R.take m).map Prod.snd).length = m := by rw [List.length_map, List.length_take]; omega
  refine ⟨_, cap, by rw [hl], by rw [hl]; exact hc, hx, (fun e => by cases e), fun _ => ⟨g, 0, rfl, trivial, h.lt, fun k x hk => ?_⟩⟩
  rw [List.getElem?_map, List.getElem?_take] at hk
  by_cases hkm : k < m
  · rw [if_pos hkm] at hk
    cases hp : R[k]? with
    | none => rw [hp] at hk; simp at hk
    | some p =>
      rw [hp] at hk
      simp at hk
      subst hk
      exact ⟨p.1, Ty.rd_at (h.rd k p hp), fun i u hu => by rw [Nat.zero_add]; exact h.cells k p hp i u hu⟩
  · rw [if_neg hkm] at hk; simp at hk
theorem RowR.turns {S : Ty α} {g : Nat} {w w' : World} {R R' : List (List Value × α)} (h : RowR S g w R) (t : Turns [g] w w') (hf : ∀ j, w'.frozen? ⟨g, j, none⟩ = false)
    (hc : ∀ (j : Nat) (p : List Value × α), R'[j]? = some p → ∀ (i : Nat) (u : Value), p.1[i]? = some u → w'.cell? ⟨g, j * S.size + i, none⟩ = some u) (hR : ∀ p ∈ R', p ∈ R) : RowR S g w' R' := by
  refine ⟨hc, hf, fun j p hp => ?_, Nat.lt_of_lt_of_le h.lt t.size⟩
  obtain ⟨i, hi⟩ := List.mem_iff_getElem?.1 (hR p (List.mem_of_getElem? hp))
  exact S.keep (h.rd i p hi) (fun k hk hl => ⟨hk, t.block k hl (by simpa using hk), Nat.lt_of_lt_of_le hl t.size⟩)
/-- Element q is stored at place k. -/
theorem RowR.store {S : Ty α} {g : Nat} {w : World} {R : List (List Value × α)} (h : RowR S g w R) {k : Nat} {q : List Value × α} (hk : k < R.length) (hq : q ∈ R) : RowR S g (setCs w g (k * S.size) q.1) (R.set k q) := by
  have hql : q.1.length = S.size := by
    obtain ⟨i, hi⟩ := List.mem_iff_getElem?.1 hq
    exact S.len (h.rd i q hi)
  have hfr : ∀ (cs : List Value) (w : World) (o : Nat), (∀ j, w.frozen? ⟨g, j, none⟩ = false) → ∀ j, (setCs w g o cs).frozen? ⟨g, j, none⟩ = false := by
    intro cs
    induction cs with
    | nil => intro w o hw j; exact hw j
    | cons c cs ih => intro w o hw j; exact ih _ _ (fun j => by rw [World.frozen?_setCell]; exact hw j) j
  have hce : ∀ (cs : List Value) (w : World) (o j : Nat) , (∀ i, i < cs.length → (w.cell? ⟨g, o + i, none⟩).isSome = true) → (setCs w g o cs).cell? ⟨g, j, none⟩ = if o ≤ j ∧ j < o + cs.length then cs[j - o]? else w.cell? ⟨g, j, none⟩ := by
    intro cs
    induction cs with
    | nil => intro w o j _; rw [if_neg (by simp <;> omega)]; rfl
    | cons c cs ih =>
      intro w o j hw
      have h0 := hw 0 (by simp)
      rw [Nat.add_zero] at h0
      show (setCs (w.setCell ⟨g, o, none⟩ c) g (o + 1) cs).cell? ⟨g, j, none⟩ = _
      rw [ih _ _ _ (fun i hi => by
        rw [World.cell?_setCell_other _ _ _ _ (by simp <;> omega)]
        have := hw (i + 1) (by simp; omega)
        rwa [show o + (i + 1) = o + 1 + i by omega] at this)]
      by_cases h1 : o + 1 ≤ j ∧ j < o + 1 + cs.length
      · rw [if_pos h1, if_pos (by simp; omega), show j - o = (j - (o + 1)) + 1 by omega, List.getElem?_cons_succ]
      · rw [if_neg h1]
        by_cases h2 : j = o
        · subst h2
          rw [if_pos (by simp), Nat.sub_self, World.cell?_setCell_same' w ⟨g, j, none⟩ c h0]
          rfl
        · rw [if_neg (by simp <;> omega), World.cell?_setCell_other _ _ _ _ (by simp <;> omega)]
  refine h.turns (setCs_turns q.1 w g (k * S.size)) (hfr _ _ _ h.free) (fun j p hp i u hu => ?_) (fun p hp => ?_)
  · rw [hce _ _ _ _ (fun i hi => by
      obtain ⟨p0, hp0⟩ : ∃ p0, R[k]? = some p0 := ⟨_, List.getElem?_eq_getElem hk⟩
      have hl0 := S.len (h.rd k p0 hp0)
      obtain ⟨u0, hu0⟩ : ∃ u0, p0.1[i]? = some u0 := ⟨_, List.getElem?_eq_getElem (by omega)⟩
      rw [h.cells k p0 hp0 i u0 hu0]
      rfl)]
    rw [List.getElem?_set] at hp
    by_cases hkj : k = j
    · subst hkj
      rw [if_pos rfl, if_pos hk] at hp
      cases hp
      have hi := (List.getElem?_eq_some_iff.1 hu).1
      rw [if_pos ⟨by omega, by omega⟩, Nat.add_sub_cancel_left]
      exact hu
    · rw [if_neg hkj] at hp
      have hi := (List.getElem?_eq_some_iff.1 hu).1
      rw [S.len (h.rd j p hp)] at hi
      rw [if_neg ?_]
      · exact h.cells j p hp i u hu
      · rintro ⟨h1, h2⟩
        rw [hql] at h2
        rcases Nat.lt_or_gt_of_ne hkj with h3 | h3
        · have h4 : (k + 1) * S.size ≤ j * S.size := Nat.mul_le_mul_right _ h3
          rw [Nat.succ_mul] at h4
          omega
        · have h4 : (j + 1) * S.size ≤ k * S.size := Nat.mul_le_mul_right _ h3
          rw [Nat.succ_mul] at h4
          omega
  · rcases List.mem_or_eq_of_mem_set hp with h1 | h1
    · exact h1
    · subst h1; exact hq
theorem zeroCells_one {cs : Array Value} {n : Nat} (h : ∀ u ∈ cs.toList, u.oneCell' = true) : ∀ u ∈ (Builtin.zeroCells cs n).toList, u.oneCell' = true := by
  intro u hu
  unfold Builtin.zeroCells at hu
  simp at hu
  obtain ⟨j, hj, rfl⟩ := hu
  have h0 : 0 < cs.size := by
    rcases Nat.eq_zero_or_pos cs.size with h0 | h0
    · rw [h0] at hj; simp at hj
    · exact h0
  have hm : j % cs.size < cs.size := Nat.mod_lt _ h0
  rw [getElem!_pos cs _ hm]
  exact h _ (by simp)
/-- 'clear(s[k:])': what lies below stays. -/
theorem clear_row {S : Ty α} {P : Program} {t e ty : TypeId} {z : Value} (ht : P.underlying t = some (.slice e)) (hv : ∀ w, (zeroValue e).run P w = .ok z w) (hz : z.cells.size = S.size) (h1 : ∀ u ∈ z.cells.toList, u.oneCell' = true)
    {g n k c : Nat} {w : World} {R : List (List Value × α)} (h : RowR S g w R) (hR : R.length = n) (hk : k < n) :
    ∃ w', (Builtin.clear_ #[t] ty #[.slice (some ⟨g, k * S.size, none⟩) (n - k) c]).run P w = .ok (.tuple #[]) w' ∧ RowR S g w' (R.take k) ∧ Turns [g] w w' := by
  have hlen : (Builtin.zeroCells z.cells (n - k)).toList.length = (n - k) * S.size := by simp [size_zeroCells, hz]
  have hcell : ∀ j, j < n * S.size → (w.cell? ⟨g, j, none⟩).isSome = true := by
    intro j hj
    have hs : 0 < S.size := by
      rcases Nat.eq_zero_or_pos S.size with h0 | h0
      · rw [h0] at hj; omega
      · exact h0
    have hi : j / S.size < R.length := by rw [Nat.div_lt_iff_lt_mul hs, hR]; exact hj
    have hp : R[j / S.size]? = some R[j / S.size] := List.getElem?_eq_getElem hi
    have hl := S.len (h.rd _ _ hp)
    have hm : j % S.size < S.size := Nat.mod_lt _ hs
    have := h.cells _ _ hp (j % S.size) _ (List.getElem?_eq_getElem (by omega))
    rw [Nat.mul_comm, Nat.div_add_mod] at this
    rw [this]
    rfl
  have hnk : (n - k) * S.size + k * S.size = n * S.size := by rw [← Nat.add_mul]; congr 1; omega
  have hst := run_storeCells_cells (P := P) g (k * S.size) (Builtin.zeroCells z.cells (n - k)).toList 0 w (fun j hj => hcell _ (by rw [hlen] at hj; omega)) (fun j _ => h.free _) (zeroCells_one h1)
  simp only [Nat.add_zero] at hst
  obtain ⟨m, hm⟩ : ∃ m, n - k = m + 1 := ⟨n - k - 1, by omega⟩
  have T : ∀ (cs : List Value) (w : World) (o : Nat), Turns [g] w (w.setCells g o cs) := by
    intro cs
    induction cs with
    | nil => intro w o; exact Turns.refl _ _
    | cons c cs ih => intro w o; exact ((Turns.refl [g] w).setCell (.inl (by simp)) _).trans (ih _ _)
  have fr : ∀ (cs : List Value) (w : World) (o : Nat), (∀ j, w.frozen? ⟨g, j, none⟩ = false) → ∀ j, (w.setCells g o cs).frozen? ⟨g, j, none⟩ = false := by
    intro cs
    induction cs with
    | nil => intro w o hw j; exact hw j
    | cons c cs ih => intro w o hw j; exact ih _ _ (fun j => by rw [World.frozen?_setCell]; exact hw j) j
  have lo : ∀ (cs : List Value) (w : World) (o j : Nat), j < o → (w.setCells g o cs).cell? ⟨g, j, none⟩ = w.cell? ⟨g, j, none⟩ := by
    intro cs
    induction cs with
    | nil => intro w o j _; rfl
    | cons c cs ih =>
      intro w o j hj
      show ((w.setCell ⟨g, o, none⟩ c).setCells g (o + 1) cs).cell? _ = _
      rw [ih _ _ _ (by omega), World.cell?_setCell_other _ _ _ _ (by simp <;> omega)]
  refine ⟨w.setCells g (k * S.size) (Builtin.zeroCells z.cells (n - k)).toList, ?_, h.turns (T _ _ _) (fr _ _ _ h.free) (fun j p hp i u hu => ?_) (fun p hp => List.mem_of_mem_take hp), T _ _ _⟩
  · rw [hm] at hst ⊢
    simp [Builtin.clear_, run_underlying ht, hv, hst]
  · rw [List.getElem?_take] at hp
    by_cases hjk : j < k
    · rw [if_pos hjk] at hp
      have hi := (List.getElem?_eq_some_iff.1 hu).1
      rw [S.len (h.rd j p hp)] at hi
      have h4 : (j + 1) * S.size ≤ k * S.size := Nat.mul_le_mul_right _ hjk
      rw [Nat.succ_mul] at h4
      rw [lo _ _ _ _ (by omega)]
      exact h.cells j p hp i u hu
    · rw [if_neg hjk] at hp; simp at hp
theorem wpList_clear {P : Program} {ops : Array Oper} {rest : List Oper} {o : Oper} {a : Act} {Q : Exit → Act → World → Prop} {w : World} {S : Ty α} (hgd : o.guard = none) (x : Operand) (t : TypeId)
    (ho : o.op = .call { callee := .builtin .clear, args := #[x], argTypes := #[t] }) {e : TypeId} {z : Value} (ht : P.underlying t = some (.slice e)) (hv : ∀ w, (zeroValue e).run P w = .ok z w) (hz : z.cells.size = S.size) (h1 : ∀ u ∈ z.cells.toList, u.oneCell' = true)
    {g n k c off : Nat} {R : List (List Value × α)} (hx : a.eval x = .slice (some ⟨g, off, none⟩) (n - k) c) (hoff : off = k * S.size) (h : RowR S g w R) (hR : R.length = n) (hk : k < n)
    (hK : ∀ w', RowR S g w' (R.take k) → Turns [g] w w' → wpList P ops Q rest (a.put o.dst (.tuple #[])) w') : wpList P ops Q (o :: rest) a w := by
  refine wpList_plain hgd fun K hK' => ?_
  subst hoff
  obtain ⟨w', hr, r1, r2⟩ := clear_row (P := P) (ty := o.type) ht hv hz h1 (c := c) h hR hk
  unfold Oper.wp execOp
  simp only [ho, resolve, invoke, builtin, Sem.run_bind, Sem.run_pure, Result.andThen_ok, List.map_toArray, List.map_cons, List.map_nil, hx, hr]
  exact hK' _ _ (hK w' r1 r2)
end Go.Proofs.Ytnbefpfijaimjaa
