/- 'out = append(out, x)' within a region that draws its order. It speaks of no program. -/
import Derived.Test.YtkhcblheekfdmaaGBase
import Derived.Deep.RegionHeld3
namespace Go.Proofs.Ytkhcblheekfdmaa
open Go.RowKit
theorem step_push {P : Program} {ops : Array Oper} {o : Oper} {a : Act} {K : Act → World → Prop} {Q : Exit → Act → World → Prop} {E : Prop} (w : World) (C : Array Value) (te : TypeId) (hgd : o.guard = none) (s x : Operand) (t : TypeId)
    (ho : o.op = .call { callee := .builtin .append, args := #[s, x], argTypes := #[t, t] })
    (B : Nat) (e : TypeId) (i : TypeInfo) (z : Value) (size bytes : Nat) (ht : P.underlying t = some (.slice e)) (hi : P.info? e = some i) (hz : i.zero = some z)
    (hsize : i.size = size) (hby : i.bytes = bytes) (hzs : z.cells.size = size) (hsz : 0 < size)
    (v : Value) (n : Nat) (xs : List Value) (hs : a.eval s = v) (hown : w.ownsRow B e size v n xs)
    (hx : a.eval x = .slice (some ⟨w.heap.size, 0, none⟩) 1 1) (hC : C.size = size) (h1 : ∀ u ∈ C.toList, u.oneCell' = true) (hn : (n + 1) * bytes ≤ 140737488355328) (hm : n + 1 ≤ maxLen) (hB : B ≤ w.heap.size)
    (h : ∀ v' w', w'.ownsRow B e size v' (n + 1) (xs ++ C.toList) → Turns v.ownBlock.toList w w' → (v'.ownBlock = v.ownBlock ∨ v'.ownBlock = some (w.heap.size + 1)) → K (a.put o.dst v') w') :
    if Region.wanted o (yielded ops a.tmps) = true then Oper.wp P o a (w.alloc (.cells C te)) K Q else E := by
  have hw : Region.wanted o (yielded ops a.tmps) = true := by simp [Region.wanted, hgd]
  rw [if_pos hw]
  have hnews : ∀ j u, C.toList[j]? = some u → (w.alloc (.cells C te)).cell? ((⟨w.heap.size, 0, none⟩ : Addr).add j) = some u := by
    intro j u hu
    rw [Addr.add_lit, Nat.zero_add, cell_of_row _ w.heap.size j C te (0, 0) (heap_alloc_new w _)]
    simpa using hu
  obtain ⟨v', w', hr, r1, r2, r3⟩ := app_block (P := P) (w.alloc (.cells C te)) B t o.type e i z size bytes ht hi hz hsize hby hzs hsz v n xs (hown.alloc _) ⟨w.heap.size, 0, none⟩ 1 1 C.toList (by simpa using hC) hnews h1 hm hn (by simp; omega) (by decide)
  unfold Oper.wp execOp
  simp only [ho, resolve, invoke, builtin, Sem.run_bind, Sem.run_pure, Result.andThen_ok, List.map_toArray, List.map_cons, List.map_nil, hs, hx, hr]
  refine h v' w' r1 ?_ (by simpa using r3)
  refine Turns.trans ((Turns.refl _ w).alloc _) ⟨r2.os, r2.tape, r2.output, r2.size, fun k hk hn' => r2.block k hk (fun e => hn' ?_)⟩
  rw [← e]
  simp
theorem step_pushOwn {P : Program} {ops : Array Oper} {o : Oper} {a : Act} {K : Act → World → Prop} {Q : Exit → Act → World → Prop} {E : Prop} {w : World} {C : Array Value} {te : TypeId} {α : Type} (S : Ty α) (w0 : World) (hgd : o.guard = none) (s x : Operand) (t : TypeId)
    (ho : o.op = .call { callee := .builtin .append, args := #[s, x], argTypes := #[t, t] })
    (B : Nat) (e : TypeId) (i : TypeInfo) (z : Value) (bytes : Nat) (ht : P.underlying t = some (.slice e)) (hi : P.info? e = some i) (hz : i.zero = some z)
    (hsize : i.size = S.size) (hby : i.bytes = bytes) (hzs : z.cells.size = S.size) (hsz : 0 < S.size)
    {v : Value} {l : List α} (hs : a.eval s = v) (hlist : ListOwn S B e w0 v l) (hmore : More w0 w)
    {N : Nat} (hx : a.eval x = .slice (some ⟨N, 0, none⟩) 1 1) (hN : w.heap.size = N) {y : α} (hy : S.fresh w0.heap.size w C.toList y) (hlen : Hid (l.length ≤ 2097152)) (hbytes : bytes ≤ 65536) (hB : Hid (B ≤ w0.heap.size))
    (h : ∀ v' w', ListOwn S B e w' v' (l ++ [y]) → (∀ W : World, W.heap.size = B → More W w → More W w') → K (a.put o.dst v') w') :
    if Region.wanted o (yielded ops a.tmps) = true then Oper.wp P o a (w.alloc (.cells C te)) K Q else E := by
  subst hN
  have hB := hB.out
  have hn : (l.length + 1) * bytes ≤ 140737488355328 := by
    have := Nat.mul_le_mul (show l.length + 1 ≤ 2097153 by have := hlen.out; omega) hbytes
    omega
  have hm : l.length + 1 ≤ maxLen := by have := hlen.out; unfold maxLen; omega
  obtain ⟨xs, bss, h1, h2, h3, h4, h5⟩ := hlist
  have hw := hmore.size
  have hat := Ty.fresh_at hy
  refine step_push w C te hgd s x t ho B e i z S.size bytes ht hi hz hsize hby hzs hsz v l.length xs hs (ownsRow_more h1 hmore) hx (by simpa using S.len hat) (S.one hat) hn hm (by omega) fun v' w' r1 r2 r3 => h v' w' ?_ ?_
  · refine ListOwn.push (w0 := w0) (ownsRow_more h1 hmore) h2 h3 h4 (fun i x b hx hb => Ty.own_more (h5 i x b hx hb) hmore) (fun b hb => ?_) (fun g hg => (ownsRow_lt h1 hg).2) hy hB hw r1 r2 r3
    obtain ⟨b', hb1, hb2⟩ := List.mem_flatten.1 hb
    obtain ⟨j, hj, rfl⟩ := List.getElem_of_mem hb1
    exact S.own_lt (h5 j _ _ (List.getElem?_eq_getElem (by omega)) (List.getElem?_eq_getElem hj)) b hb2
  · intro W hW hWm
    subst hW
    refine Below.trans hWm (r2.below hWm.size fun k hk => ?_)
    cases hv : v.ownBlock with
    | none => rw [hv] at hk; simp at hk
    | some g => rw [hv] at hk; simp at hk; rw [hk]; exact (ownsRow_lt h1 hv).1
end Go.Proofs.Ytkhcblheekfdmaa
