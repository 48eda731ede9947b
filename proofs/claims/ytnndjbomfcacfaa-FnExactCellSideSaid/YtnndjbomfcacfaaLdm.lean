/- Long loads within a drawn region; long stores. It speaks of no program. -/
import Derived.Test.YtnndjbomfcacfaaGBase
import Derived.Test.YtnndjbomfcacfaaRng
import Derived.Test.YtnndjbomfcacfaaMan
namespace Go.Proofs.Ytnndjbomfcacfaa
open Go.RowKit
theorem run_ld {P : Program} {op : Oper} {a : Act} {w : World} (ty : TypeId) (x : Operand) (ho : op.op = .load ty x) (b o : Nat) (hx : a.eval x = .pointer (some ⟨b, o, none⟩)) (cs : List Value) (d : TypeDesc) (hc : w.rangeAt b o cs)
    (hu : P.underlying ty = some d) (hd : d.isRow = true) (hi : (P.info? ty).map (·.size) = some cs.length) : (execOp a.eval op).run P w = .ok (.value (.agg cs.toArray)) w := by
  unfold execOp
  simp only [ho, hx, Instr.loadAt, Instr.sureAddr, Sem.run_bind, Sem.run_pure, Result.andThen_ok, run_loadVar_mid w b o ty cs d hc hu hd hi]
theorem setCells_setCs (cs : List Value) : ∀ (w : World) (b o : Nat), w.setCells b o cs = setCs w b o cs := by
  induction cs with
  | nil => intro w b o; rfl
  | cons c cs ih => intro w b o; exact ih _ _ _
theorem more_setCells {w w2 : World} {g o : Nat} {cs : List Value} (h : More w w2) (hg : w.heap.size ≤ g) : More w (w2.setCells g o cs) := by
  rw [setCells_setCs]
  exact h.turn (setCs_turns cs w2 g o) (fun k hk => by simp only [List.mem_cons, List.not_mem_nil, or_false] at hk; omega)
theorem there_new {X : World} {C : Array Value} {t : TypeId} {N n : Nat} (hN : X.heap.size = N) (hC : C.size = n) : (X.alloc (.cells C t)).there N 0 n := fun j hj => by
  subst hN
  subst hC
  refine ⟨?_, frozen_of_row _ X.heap.size (0 + j) C t (heap_alloc_new X _)⟩
  rw [cell_of_row _ X.heap.size (0 + j) C t (0, 0) (heap_alloc_new X _), Nat.zero_add]
  simp [hj]
/-- A long store into the box that was made just now. -/
theorem wpList_store_new {P : Program} {ops : Array Oper} {rest : List Oper} {op : Oper} {a : Act} {X : World} {Q : Exit → Act → World → Prop} {C : Array Value} {t : TypeId} (hgd : op.guard = none) (ty : TypeId) (x y : Operand) (ho : op.op = .store ty x y) (N : Nat) (hN : X.heap.size = N) (cs : List Value)
    (hx : a.eval x = .pointer (some ⟨N, 0, none⟩)) (hy : a.eval y = .agg cs.toArray) (hC : C.size = cs.length) (hi : (P.info? ty).map (·.size) = some cs.length) (h1 : ∀ v ∈ cs, v.oneCell' = true)
    (h : ∀ w', More X w' → N < w'.heap.size → w'.rangeAt N 0 cs → wpList P ops Q rest (a.put op.dst undef) w') : wpList P ops Q (op :: rest) a (X.alloc (.cells C t)) := by
  have ht : (X.alloc (.cells C t)).there N 0 cs.length := there_new hN hC
  refine wpList_store_mid hgd ty x y ho N 0 cs.toArray hx hy (by simpa using ht) (by simpa using hi) (all_oneCell_toArray h1) ?_
  have e : cs.toArray.toList = cs := by simp
  rw [e]
  refine h _ ?_ ?_ (World.rangeAt_setCells_same _ _ _ _ ht)
  · rw [setCells_setCs]
    exact (Turns.more ((Turns.refl [] X).alloc _)).turn (setCs_turns cs _ N 0) (fun k hk => by simp only [List.mem_cons, List.not_mem_nil, or_false] at hk; omega)
  · rw [setCells_setCs]
    have := (setCs_turns cs (X.alloc (.cells C t)) N 0).size
    simp at this
    omega
theorem range_turn {bs : List Nat} {w w' : World} {N : Nat} {cs : List Value} (T : Turns bs w w') (hN : N < w.heap.size) (hn : N ∉ bs) (h : w.rangeAt N 0 cs) : w'.rangeAt N 0 cs := fun j v hv => cell_heap (h j v hv) (T.block N hN hn)
theorem range_keep {w w' : World} {N : Nat} {cs : List Value} (hm : More w w') (hN : N < w.heap.size) (h : w.rangeAt N 0 cs) : w'.rangeAt N 0 cs := fun j v hv => box_keep hm hN (h j v hv)
theorem el_range {α : Type} {S : Ty α} {w : World} {ao : Option Addr} {n cap : Nat} {l : List α} (h : (tSlice S).at w [.slice ao n cap] l) {k : Nat} (hk : k < l.length) :
    ∃ (b off : Nat) (x : α) (c : List Value), ao = some ⟨b, off, none⟩ ∧ b < w.heap.size ∧ l[k]? = some x ∧ S.at w c x ∧ c.length = S.size ∧ ∀ w', More w w' → w'.rangeAt b (off + k * S.size) c := by
  obtain ⟨x, hx⟩ : ∃ x, l[k]? = some x := ⟨_, List.getElem?_eq_getElem hk⟩
  obtain ⟨b, off, c, h1, h2, h3, h4⟩ := sl_el h hx
  exact ⟨b, off, x, c, h1, h2, hx, h3, S.len h3, fun w' hw j v hv => ((bcell hw).1 _ _ h2).trans (h4 j v hv)⟩
end Go.Proofs.Ytnndjbomfcacfaa
