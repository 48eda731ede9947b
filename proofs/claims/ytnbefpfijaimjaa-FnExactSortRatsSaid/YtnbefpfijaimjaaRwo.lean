/- A row of the call's own whose elements lie elsewhere, appended to. It speaks of no program. -/
import Derived.Test.YtnbefpfijaimjaaRow
import Derived.Test.YtnbefpfijaimjaaGBase
namespace Go.Proofs.Ytnbefpfijaimjaa
open Go.RowKit
variable {α : Type}
def RowO (S : Ty α) (B : Nat) (e : TypeId) (w : World) (g n cap : Nat) (l : List α) : Prop :=
  n = l.length ∧ ∃ xs, w.ownsRow B e S.size (.slice (some ⟨g, 0, none⟩) n cap) n xs ∧ ∀ i x, l[i]? = some x → S.rd (fun k => k ≠ g) w ((xs.drop (i * S.size)).take S.size) x
theorem RowO.lt {S : Ty α} {B : Nat} {e : TypeId} {w : World} {g n cap : Nat} {l : List α} (h : RowO S B e w g n cap l) : B ≤ g ∧ g < w.heap.size := by
  obtain ⟨_, xs, h1, _⟩ := h
  exact ownsRow_lt h1 rfl
theorem RowO.at {S : Ty α} {B : Nat} {e : TypeId} {w : World} {g n cap : Nat} {l : List α} (h : RowO S B e w g n cap l) : (tSlice S).at w [.slice (some ⟨g, 0, none⟩) n cap] l := by
  obtain ⟨h0, xs, h1, h2⟩ := h
  exact at_of_row h1 h0.symm fun i x hx => Ty.rd_at (h2 i x hx)
theorem RowO.more {S : Ty α} {B : Nat} {e : TypeId} {w w' : World} {g n cap : Nat} {l : List α} (h : RowO S B e w g n cap l) (hm : More w w') : RowO S B e w' g n cap l := by
  obtain ⟨h0, xs, h1, h2⟩ := h
  exact ⟨h0, xs, ownsRow_more h1 hm, fun i x hx => S.keep (h2 i x hx) (fun k hk hl => ⟨hk, hm.block k hl, Nat.lt_of_lt_of_le hl hm.size⟩)⟩
theorem RowO.lit {S : Ty α} {B : Nat} {e : TypeId} {w : World} (hB : B ≤ w.heap.size) : RowO S B e (w.alloc (.cells #[] e)) w.heap.size 0 0 [] :=
  ⟨rfl, [], World.ownsRow_lit (size := S.size) w #[] 0 hB (by simp) (by simp), fun i x hx => by simp at hx⟩
/-- What is read in an earlier world lies outside a row of the call's own. -/
theorem rd_old {S : Ty α} {w w' : World} {cs : List Value} {x : α} (h : S.at w cs x) (hm : More w w') {g : Nat} (hg : w.heap.size ≤ g) : S.rd (fun k => k ≠ g) w' cs x :=
  S.keep h (fun k _ hl => ⟨by omega, hm.block k hl, Nat.lt_of_lt_of_le hl hm.size⟩)
theorem one_rd {S : Ty α} {p : Nat → Prop} {w : World} {C : Array Value} {te : TypeId} {y : α} {N : Nat} (h : S.rd p w C.toList y) (hN : w.heap.size = N) (hp : p N) : (tSlice S).rd p (w.alloc (.cells C te)) [.slice (some ⟨N, 0, none⟩) 1 1] [y] := by
  subst hN
  refine ⟨_, 1, rfl, Nat.le_refl _, by decide, (fun e => by cases e), fun _ => ⟨w.heap.size, 0, rfl, hp, ?_, fun k x hk => ?_⟩⟩
  · show w.heap.size < (w.heap.push _).size
    rw [Array.size_push]
    omega
  · cases k with
    | zero =>
      simp at hk
      subst hk
      refine ⟨C.toList, S.keep h (fun k hk hl => ⟨hk, (Turns.more ((Turns.refl [] w).alloc _)).block k hl, ?_⟩), fun i u hu => ?_⟩
      · exact Nat.lt_of_lt_of_le hl (Turns.more ((Turns.refl [] w).alloc _)).size
      · rw [Nat.zero_mul, Nat.zero_add, cell_of_row _ w.heap.size _ C te (0, 0) (heap_alloc_new w _)]
        simpa using hu
    | succ k => simp at hk
theorem app_block0 {P : Program} (w : World) (base : Nat) (t ty e : TypeId) (i : TypeInfo) (z : Value) (size bytes : Nat) (ht : P.underlying t = some (.slice e)) (hi : P.info? e = some i) (hz : i.zero = some z)
    (hsize : i.size = size) (hby : i.bytes = bytes) (hzs : z.cells.size = size) (hsz : 0 < size)
    (g n cap : Nat) (xs : List Value) (hown : w.ownsRow base e size (.slice (some ⟨g, 0, none⟩) n cap) n xs)
    (a : Addr) (m c : Nat) (news : List Value) (hl : news.length = m * size) (hnews : ∀ j u, news[j]? = some u → w.cell? (a.add j) = some u) (h1 : ∀ u ∈ news, u.oneCell' = true)
    (h63 : n + m ≤ maxLen) (hbytes : (n + m) * bytes ≤ 140737488355328) (hbase : base ≤ w.heap.size) :
    ∃ g' cap' w', (Builtin.append_ #[t, t] ty #[.slice (some ⟨g, 0, none⟩) n cap, .slice (some a) m c]).run P w = .ok (.slice (some ⟨g', 0, none⟩) (n + m) cap') w' ∧ w'.ownsRow base e size (.slice (some ⟨g', 0, none⟩) (n + m) cap') (n + m) (xs ++ news) ∧ GrownD w w' (some g) ∧
      (g' = g ∨ g' = w.heap.size) := by
  obtain ⟨v', w', hr, r1, r2, r3⟩ := run_append_own (P := P) w base t ty e i z size bytes ht hi hz hsize hby hzs hsz _ n xs hown a m c news hl hnews h1 h63 hbytes hbase
  rcases r1.2 with ⟨rfl, h0⟩ | ⟨g', cap', cur', rfl, hg', hh', hnc', hc', hcs', htk'⟩
  · have := (r3.1 rfl).1
    cases this
  refine ⟨g', cap', w', hr, r1, r2, ?_⟩
  subst hsize
  subst hby
  have h63' : ((n + m : Nat) : Int) ≤ 9223372036854775807 := by unfold maxLen at h63; omega
  rcases hown.2 with ⟨h, _⟩ | ⟨g1, cap1, cur, h, hbg, hg, hnc, hcm, hcs, htake⟩
  · cases h
  · cases h
    by_cases hroom : n + m ≤ cap
    · have hfit : n * i.size + news.length ≤ cur.size := by rw [hl, hcs, ← Nat.add_mul]; exact Nat.mul_le_mul_right _ hroom
      have hr2 := run_append_room (P := P) w t ty e i ht hi g n cap cur hg a m c news hl hnews h1 hroom hfit
      rw [hr2] at hr
      cases hr
      exact .inl rfl
    · have holds : ∀ j u, xs[j]? = some u → w.cell? ((⟨g, 0, none⟩ : Addr).add j) = some u := hown.cells (g := g) rfl
      have hr2 := run_append_grow (P := P) w t ty e i z ht hi hz ⟨g, 0, none⟩ n cap xs hown.1 holds a m c news hl hnews (by omega) h63' (growslice_fits (by omega) hbytes)
      rw [hr2] at hr
      cases hr
      exact .inr rfl
/-- 'append(s, x...)': the elements of x are read outside the row of s. -/
theorem wpList_appRow {P : Program} {ops : Array Oper} {rest : List Oper} {o : Oper} {a : Act} {Q : Exit → Act → World → Prop} {w : World} (S : Ty α) (w0 : World) (hgd : o.guard = none) (s x : Operand) (t : TypeId)
    (ho : o.op = .call { callee := .builtin .append, args := #[s, x], argTypes := #[t, t] })
    (B : Nat) (e : TypeId) (i : TypeInfo) (z : Value) (bytes : Nat) (ht : P.underlying t = some (.slice e)) (hi : P.info? e = some i) (hz : i.zero = some z)
    (hsize : i.size = S.size) (hby : i.bytes = bytes) (hzs : z.cells.size = S.size) (hsz : 0 < S.size)
    {g n cap : Nat} {l : List α} (hs : a.eval s = .slice (some ⟨g, 0, none⟩) n cap) (hrow : RowO S B e w0 g n cap l) (hmore : More w0 w)
    {ad : Addr} {m c : Nat} (hx : a.eval x = .slice (some ad) m c) {l2 : List α} (hat : (tSlice S).rd (fun k => k ≠ g) w [.slice (some ad) m c] l2) (hlen : Hid (n + m ≤ 2097152)) (hbytes : bytes ≤ 65536)
    (h : ∀ g' cap' w', RowO S B e w' g' (n + m) cap' (l ++ l2) → (∀ W : World, W.heap.size ≤ B → More W w → More W w') → wpList P ops Q rest (a.put o.dst (.slice (some ⟨g', 0, none⟩) (n + m) cap')) w') :
    wpList P ops Q (o :: rest) a w := by
  refine wpList_plain hgd fun K hK' => ?_
  obtain ⟨hnl, xs, h1, h2⟩ := hrow.more hmore
  have hn := hlen.out
  have hlt := ownsRow_lt h1 (g := g) rfl
  have hb : (n + m) * bytes ≤ 140737488355328 := by
    have := Nat.mul_le_mul (show n + m ≤ 2097152 by omega) hbytes
    omega
  have hml : l2.length = m := by
    obtain ⟨ao', cap', h0, _⟩ := slRd_at hat
    simp at h0
    exact h0.2.1.symm
  have hys : ∃ ys : List Value, ys.length = m * S.size ∧ (∀ j u, ys[j]? = some u → w.cell? (ad.add j) = some u) ∧ (∀ u ∈ ys, u.oneCell' = true) ∧ ∀ i x, l2[i]? = some x → S.rd (fun k => k ≠ g) w ((ys.drop (i * S.size)).take S.size) x := by
    by_cases h0 : 0 < l2.length
    · obtain ⟨ao', cap', e0, _, _, _, h4⟩ := slRd_at hat
      simp at e0
      obtain ⟨rfl, rfl, rfl⟩ := e0
      obtain ⟨b, off, e1, _⟩ := h4 h0
      cases e1
      obtain ⟨xs, q1, q2, q3, q4⟩ := at_cells hsz hat
      exact ⟨xs, q1, fun j u hu => by rw [Addr.add_lit]; exact q2 j u hu, q3, q4⟩
    · have h3 : l2 = [] := List.eq_nil_of_length_eq_zero (by omega)
      subst h3
      obtain rfl : m = 0 := by simpa using hml.symm
      exact ⟨[], by simp, fun j u hu => by simp at hu, by simp, fun i x hx => by simp at hx⟩
  obtain ⟨ys, q1, q2, q3, q4⟩ := hys
  obtain ⟨g', cap', w', hr, r1, r2, r3⟩ := app_block0 (P := P) w B t o.type e i z S.size bytes ht hi hz hsize hby hzs hsz g n cap xs h1 ad m c ys q1 q2 q3 (by unfold maxLen; omega) hb (by omega)
  have T : Turns [g] w w' := ⟨r2.os, r2.tape, r2.output, r2.size, fun k hk hn' => r2.block k hk (fun e => hn' (by cases e; simp)), r2.drawn⟩
  have kp : ∀ cs x, S.rd (fun k => k ≠ g) w cs x → S.rd (fun k => k ≠ g') w' cs x := fun cs x hcs =>
    S.keep hcs (fun k hk hl => ⟨by rcases r3 with rfl | rfl
                                   · exact hk
                                   · omega, T.block k hl (by simpa using hk), Nat.lt_of_lt_of_le hl T.size⟩)
  unfold Oper.wp execOp
  simp only [ho, resolve, invoke, builtin, Sem.run_bind, Sem.run_pure, Result.andThen_ok, List.map_toArray, List.map_cons, List.map_nil, hs, hx, hr]
  refine hK' _ _ (h g' cap' w' ⟨by rw [List.length_append, hml, hnl], xs ++ ys, r1, fun i x hx => ?_⟩ fun W hW hmw => More.turn hmw T (by simp; omega))
  by_cases hil : i < l.length
  · rw [List.getElem?_append_left hil] at hx
    rw [chunk_append h1.1 (by omega)]
    exact kp _ _ (h2 i x hx)
  · rw [List.getElem?_append_right (by omega)] at hx
    have h5 := kp _ _ (q4 _ _ hx)
    have h6 : xs.length + (i - l.length) * S.size = i * S.size := by
      rw [h1.1, hnl, ← Nat.add_mul]
      congr 1
      omega
    rw [← h6, List.drop_append, List.drop_of_length_le (by omega), List.nil_append, Nat.add_sub_cancel_left]
    exact h5
theorem sl_dropP {S : Ty α} {p : Nat → Prop} {w : World} {b off n cap : Nat} {l : List α} (h : (tSlice S).rd p w [.slice (some ⟨b, off, none⟩) n cap] l) {k : Nat} (hk : k ≤ n) {off' : Nat} (ho : off' = off + k * S.size ∨ n = k) :
    (tSlice S).rd p w [.slice (some ⟨b, off', none⟩) (n - k) (cap - k)] (l.drop k) := by
  obtain ⟨ao', cap', h0, k1, k2, k3, k4⟩ := slRd_at h
  simp at h0
  obtain ⟨rfl, rfl, rfl⟩ := h0
  refine ⟨_, _, by rw [List.length_drop], by rw [List.length_drop]; omega, by omega, (fun e => by cases e), fun h0 => ?_⟩
  rw [List.length_drop] at h0
  obtain ⟨b', o', e, hp, hb, he⟩ := k4 (by omega)
  cases e
  refine ⟨b, off', rfl, hp, hb, fun j x hx => ?_⟩
  rw [List.getElem?_drop] at hx
  obtain ⟨c, hc, hv⟩ := he (k + j) x hx
  refine ⟨c, hc, fun i v hi => ?_⟩
  have := hv i v hi
  rcases ho with rfl | h9
  rotate_left
  · omega
  rw [Nat.add_assoc off, ← Nat.add_mul]
  exact this
theorem sl_takeQ {S : Ty α} {p : Nat → Prop} {w : World} {ao : Option Addr} {n cap m : Nat} {l : List α} (h : (tSlice S).rd p w [.slice ao n cap] l) (hm : m ≤ n) : (tSlice S).rd p w [.slice ao m cap] (l.take m) := by
  obtain ⟨ao', cap', h0, k1, k2, k3, k4⟩ := slRd_at h
  simp at h0
  obtain ⟨rfl, rfl, rfl⟩ := h0
  have hl : (l.take m).length = m := by rw [List.length_take, Nat.min_eq_left hm]
  refine ⟨_, _, by rw [hl], by rw [hl]; omega, k2, k3, fun h0 => ?_⟩
  rw [hl] at h0
  obtain ⟨b', o', e, hp, hb, he⟩ := k4 (by omega)
  refine ⟨b', o', e, hp, hb, fun j x hx => ?_⟩
  rw [List.getElem?_take] at hx
  by_cases hj : j < m
  · rw [if_pos hj] at hx
    exact he j x hx
  · rw [if_neg hj] at hx
    cases hx
end Go.Proofs.Ytnbefpfijaimjaa
