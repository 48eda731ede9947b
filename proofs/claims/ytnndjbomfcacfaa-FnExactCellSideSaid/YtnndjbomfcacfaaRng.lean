/- A box's cells as a range. It speaks of no program. -/
import Derived.Test.YtnndjbomfcacfaaGBase
import Derived.Deep.MidRow
namespace Go.Proofs.Ytnndjbomfcacfaa
open Go.RowKit
theorem box_range {X w' : World} {l : List Value} {t : TypeId} {N : Nat} (hN : X.heap.size = N) (h : More (X.alloc (.cells l.toArray t)) w') : w'.rangeAt N 0 l := by
  intro j v hv
  rw [Nat.zero_add, box_new hN h j]
  simpa using hv
/-- A long load behind a guard. -/
theorem wpList_load_midG {P : Program} {ops : Array Oper} {rest : List Oper} {op : Oper} {a : Act} {w : World} {Q : Exit → Act → World → Prop} (hgd : Region.wanted op (yielded ops a.tmps) = true) (ty : TypeId) (x : Operand) (ho : op.op = .load ty x)
    (b o : Nat) (hx : a.eval x = .pointer (some ⟨b, o, none⟩)) (cs : List Value) (d : TypeDesc) (hc : w.rangeAt b o cs)
    (hu : P.underlying ty = some d) (hd : d.isRow = true) (hi : (P.info? ty).map (·.size) = some cs.length)
    (h : wpList P ops Q rest (a.put op.dst (.agg cs.toArray)) w) : wpList P ops Q (op :: rest) a w :=
  wpList_step fun K hK => by
    rw [if_pos hgd]
    exact wp_load_mid ty x ho b o hx cs d hc hu hd hi (hK _ _ h)
end Go.Proofs.Ytnndjbomfcacfaa
