/- slices.Clone of fractions: a row of the call's own whose elements lie elsewhere. -/
import Derived.Test.YtnbefpfijaimjaaRwr
import Derived.Test.YtnbefpfijaimjaaGInt
namespace Go.Proofs.Ytnbefpfijaimjaa
open Go.RowKit
theorem row_of {α : Type} {S : Ty α} {base : Nat} {e : TypeId} {g n cap : Nat} {w : World} {xs : List Value} {l : List α} (h : w.ownsRow base e S.size (.slice (some ⟨g, 0, none⟩) n cap) n xs) 
    (hx : ∀ i x, l[i]? = some x → S.rd (fun k => k ≠ g) w ((xs.drop (i * S.size)).take S.size) x) : ∃ R, RowR S g w R ∧ R.map Prod.snd = l := by
  refine ⟨l.mapIdx (fun i x => ((xs.drop (i * S.size)).take S.size, x)), ⟨fun j p hp i u hu => ?_, fun j => h.frozenAt j, fun j p hp => ?_, ?_⟩, ?_⟩
  · rw [List.getElem?_mapIdx] at hp
    cases hq : l[j]? with
    | none => rw [hq] at hp; simp at hp
    | some x =>
      rw [hq] at hp
      simp at hp
      subst hp
      rw [List.getElem?_take] at hu
      by_cases hi : i < S.size
      · rw [if_pos hi, List.getElem?_drop] at hu
        have := h.cells (g := g) rfl _ _ hu
        rw [Addr.add_lit, Nat.zero_add] at this
        exact this
      · rw [if_neg hi] at hu; simp at hu
  · rw [List.getElem?_mapIdx] at hp
    cases hq : l[j]? with
    | none => rw [hq] at hp; simp at hp
    | some x =>
      rw [hq] at hp
      simp at hp
      subst hp
      exact hx j x hq
  · exact (ownsRow_lt h rfl).2
  · apply List.ext_getElem?
    intro j
    rw [List.getElem?_map, List.getElem?_mapIdx]
    cases l[j]? <;> rfl
theorem infoRat9 : (Try.prog.info? 38).map (fun i => (i.zero, i.size, i.bytes)) = some (some (.agg #[.bool false, .slice none 0 0, .slice none 0 0]), 3, 56) := by kernel_rfl
/-- 'append([]T{}, x...)' over elements that lie elsewhere. -/
theorem wpList_cloneR {α : Type} {P : Program} {ops : Array Oper} {rest : List Oper} {o : Oper} {a : Act} {Q : Exit → Act → World → Prop} {w : World} {S : Ty α} (hgd : o.guard = none) (s x : Operand) (t : TypeId)
    (ho : o.op = .call { callee := .builtin .append, args := #[s, x], argTypes := #[t, t] })
    (e : TypeId) (i : TypeInfo) (z : Value) (bytes : Nat) (ht : P.underlying t = some (.slice e)) (hi : P.info? e = some i) (hz : i.zero = some z)
    (hsize : i.size = S.size) (hby : i.bytes = bytes) (hzs : z.cells.size = S.size) (hsz : 0 < S.size)
    {N : Nat} (hs : a.eval s = .slice (some ⟨N, 0, none⟩) 0 0) {ad : Addr} {n cap : Nat} (hx : a.eval x = .slice (some ad) n cap) (hN : w.heap.size = N) {l : List α} (hat : (tSlice S).at w [.slice (some ad) n cap] l) (hlen : Hid (n ≤ 2097152)) (hbytes : bytes ≤ 65536)
    (h : ∀ g cap' w' R, RowR S g w' R → R.map Prod.snd = l → n ≤ cap' → cap' ≤ maxLen → N ≤ g → More w w' → wpList P ops Q rest (a.put o.dst (.slice (some ⟨g, 0, none⟩) n cap')) w') :
    wpList P ops Q (o :: rest) a (w.alloc (.cells #[] e)) := by
  refine wpList_plain hgd fun K hK' => ?_
  subst hN
  have hn := hlen.out
  have hb : (0 + n) * bytes ≤ 140737488355328 := by
    have := Nat.mul_le_mul (show 0 + n ≤ 2097152 by omega) hbytes
    omega
  have hm1 : More w (w.alloc (.cells #[] e)) := Turns.more ((Turns.refl [] w).alloc _)
  have hxs : ∃ xs : List Value, xs.length = n * S.size ∧ (∀ j u, xs[j]? = some u → w.cell? (ad.add j) = some u) ∧ (∀ u ∈ xs, u.oneCell' = true) ∧ ∀ i x, l[i]? = some x → S.at w ((xs.drop (i * S.size)).take S.size) x := by
    obtain ⟨ao', cap', e0, _, _, _, h4⟩ := slRd_at hat
    simp at e0
    obtain ⟨rfl, rfl, rfl⟩ := e0
    by_cases h0 : 0 < l.length
    · obtain ⟨b, off, e1, _⟩ := h4 h0
      cases e1
      obtain ⟨xs, q1, q2, q3, q4⟩ := at_cells hsz hat
      exact ⟨xs, q1, fun j u hu => by rw [Addr.add_lit]; exact q2 j u hu, q3, q4⟩
    · have h1 : l.length = 0 := by omega
      exact ⟨[], by simp [h1], fun j u hu => by simp at hu, by simp, fun i x hx => by rw [List.eq_nil_of_length_eq_zero h1] at hx; simp at hx⟩
  obtain ⟨xs, q1, q2', q3, q4⟩ := hxs
  have q2 : ∀ j u, xs[j]? = some u → (w.alloc (.cells #[] e)).cell? (ad.add j) = some u := fun j u hu => Go.Lib.cell?_alloc_some _ (q2' j u hu)
  have hown := World.ownsRow_lit (base := w.heap.size) (e := e) (size := S.size) w #[] 0 (Nat.le_refl _) (by decide) (by simp)
  obtain ⟨v', w', hr, r1, r2, r3⟩ := run_append_own (P := P) (w.alloc (.cells #[] e)) w.heap.size t o.type e i z S.size bytes ht hi hz hsize hby hzs hsz (.slice (some ⟨w.heap.size, 0, none⟩) 0 0) 0 [] (by simpa using hown) ad n cap xs q1 q2 q3 (by unfold maxLen; omega) hb (by simp)
  have hml : l.length = n := by
    obtain ⟨ao', cap', h0, _⟩ := slRd_at hat
    simp at h0
    exact h0.2.1.symm
  have T : Turns [w.heap.size] (w.alloc (.cells #[] e)) w' := ⟨r2.os, r2.tape, r2.output, r2.size, fun k hk hn' => r2.block k hk (fun e => hn' (by cases e; simp)), r2.drawn⟩
  have hmw : More w w' := More.turn hm1 T (by simp)
  rw [Nat.zero_add, List.nil_append] at r1
  unfold Oper.wp execOp
  simp only [ho, resolve, invoke, builtin, Sem.run_bind, Sem.run_pure, Result.andThen_ok, List.map_toArray, List.map_cons, List.map_nil, hs, hx, hr]
  rcases r1.2 with ⟨rfl, h0⟩ | ⟨g, cap', cur, rfl, hg, hh, hnc, hc, hcs, htk⟩
  · have := (r3.1 rfl).1
    cases this
  · have hel : ∀ i x, l[i]? = some x → S.rd (fun k => k ≠ g) w' ((xs.drop (i * S.size)).take S.size) x := by
      intro i x hx'
      exact S.keep (q4 i x hx') (fun k _ hl => ⟨by omega, hmw.block k hl, Nat.lt_of_lt_of_le hl hmw.size⟩)
    obtain ⟨R, R1, R2⟩ := row_of r1 hel
    exact hK' _ _ (h g cap' w' R R1 R2 hnc hc hg hmw)
set_option maxHeartbeats 1600000 in
theorem clone_rats (v : Value) (l : List QR) (w : World) (hv : tRatS.at w [v] l) (hl : l.length ≤ 1048576) :
    Calls Try.prog 35 #[v] w fun e w' => ∃ v', e = .returned v' ∧ More w w' ∧ ((l = [] ∧ v' = .slice none 0 0) ∨
      ∃ g cap R, v' = .slice (some ⟨g, 0, none⟩) l.length cap ∧ RowR tRat g w' R ∧ R.map Prod.snd = l ∧ l.length ≤ cap ∧ cap ≤ maxLen ∧ w.heap.size ≤ g) := by
  obtain ⟨ao, cap, rfl, k1, k2, k3, k4⟩ := slRd_at hv
  have HV := Lib.hid hv; have HL := Lib.hid hl; clear hv hl k1 k2 k4
  obtain ⟨i0, hi, hz0, hz1, hz2⟩ := info_parts infoRat9
  have q22 : ∀ (w : World) (a : Option Addr) (n c n' c' : Nat), (binOp .eql 24 (.slice a n c) (.slice none n' c')).run Try.prog w = .ok (.bool a.isNone) w := fun w a n c n' c' => Lib.run_eql_slice_nil w _ _ a n c n' c' Try.underlying24
  cases ao with
  | none =>
    have hc : cap = 0 := k3 rfl
    subst hc
    have hl0 : l = [] := by
      obtain ⟨ao', cap', h0, q1, q2, q3, _⟩ := slRd_at HV.out
      simp at h0
      obtain ⟨rfl, rfl⟩ := h0
      exact List.eq_nil_of_length_eq_zero (by omega)
    have HZ := Lib.hid hl0; clear hl0 k3
    go_enter Try.func35, Try.ntmps35
    go_wp2_with fail
    go_ret
    exact ⟨_, rfl, mC, .inl ⟨HZ.out, rfl⟩⟩
  | some ad =>
    clear k3
    go_enter Try.func35, Try.ntmps35
    go_wp2_with (at_builtin; refine wpList_cloneR (S := tRat) rfl _ _ 24 rfl 38 i0 (.agg #[.bool false, .slice none 0 0, .slice none 0 0]) 56 Try.underlying24 hi hz0 hz1 hz2 rfl (by decide) rfl rfl rfl (Ty.at_more HV.out mC) (Lib.hid (by have := HL.out; omega)) (by decide) ?_)
    intro g cap' w1 R r1 r2 r3 r4 r5 b1
    have R1 := Lib.hid (And.intro r1 (And.intro r2 (And.intro r3 (And.intro r4 r5))))
    clear r1 r2 r3 r4 r5
    go_wp2_with fail
    go_ret
    exact ⟨_, rfl, mC, .inr ⟨g, cap', R, rfl, R1.out⟩⟩
end Go.Proofs.Ytnbefpfijaimjaa
