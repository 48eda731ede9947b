/- Lists that a call builds: element after element by append, or element by element into a row that was made. It speaks of no program. -/
import Derived.Test.YtkhcblheekfdmaaBase
namespace Go.Proofs.Ytkhcblheekfdmaa
open Go.RowKit
variable {α β : Type}

theorem ownsRow_more {w w' : World} {B : Nat} {e : TypeId} {s n : Nat} {v : Value} {xs : List Value} (h : w.ownsRow B e s v n xs) (hm : More w w') : w'.ownsRow B e s v n xs := by
  refine ⟨h.1, ?_⟩
  rcases h.2 with h2 | ⟨g, cap, cur, hv, hg, hh, r⟩
  · exact .inl h2
  · exact .inr ⟨g, cap, cur, hv, hg, (hm.block g (heap_lt hh)).trans hh, r⟩
theorem ownsRow_turns {w w' : World} {bs : List Nat} {B : Nat} {e : TypeId} {s n : Nat} {v : Value} {xs : List Value} (h : w.ownsRow B e s v n xs) (hm : Turns bs w w') (hd : ∀ g, v.ownBlock = some g → g ∉ bs) : w'.ownsRow B e s v n xs := by
  refine ⟨h.1, ?_⟩
  rcases h.2 with h2 | ⟨g, cap, cur, hv, hg, hh, r⟩
  · exact .inl h2
  · exact .inr ⟨g, cap, cur, hv, hg, (hm.block g (heap_lt hh) (hd g (by rw [hv]; rfl))).trans hh, r⟩
theorem ownsRow_lt {w : World} {B : Nat} {e : TypeId} {s n : Nat} {v : Value} {xs : List Value} (h : w.ownsRow B e s v n xs) {g : Nat} (hg : v.ownBlock = some g) : B ≤ g ∧ g < w.heap.size := h.lt g hg

/-- Where the new row of an append lies. -/
theorem app_block {P : Program} (w : World) (base : Nat) (t ty e : TypeId) (i : TypeInfo) (z : Value) (size bytes : Nat) (ht : P.underlying t = some (.slice e)) (hi : P.info? e = some i) (hz : i.zero = some z)
    (hsize : i.size = size) (hby : i.bytes = bytes) (hzs : z.cells.size = size) (hsz : 0 < size)
    (v : Value) (n : Nat) (xs : List Value) (hown : w.ownsRow base e size v n xs)
    (a : Addr) (m c : Nat) (news : List Value) (hl : news.length = m * size) (hnews : ∀ j u, news[j]? = some u → w.cell? (a.add j) = some u) (h1 : ∀ u ∈ news, u.oneCell' = true)
    (h63 : n + m ≤ maxLen) (hbytes : (n + m) * bytes ≤ 140737488355328) (hbase : base ≤ w.heap.size) (hm : 0 < m) :
    ∃ v' w', (Builtin.append_ #[t, t] ty #[v, .slice (some a) m c]).run P w = .ok v' w' ∧ w'.ownsRow base e size v' (n + m) (xs ++ news) ∧ w.grownBy w' v.ownBlock ∧
      (v'.ownBlock = v.ownBlock ∨ v'.ownBlock = some w.heap.size) := by
  obtain ⟨v', w', hr, r1, r2, _⟩ := run_append_own (P := P) w base t ty e i z size bytes ht hi hz hsize hby hzs hsz v n xs hown a m c news hl hnews h1 h63 hbytes hbase
  refine ⟨v', w', hr, r1, r2, ?_⟩
  subst hsize
  subst hby
  have h63' : ((n + m : Nat) : Int) ≤ 9223372036854775807 := by unfold maxLen at h63; omega
  rcases hown.2 with ⟨rfl, rfl⟩ | ⟨g, cap, cur, rfl, hbg, hg, hnc, hcm, hcs, htake⟩
  · have hr2 := run_append_nil (P := P) w t ty e i z ht hi hz a m c news hl hnews (by omega) (by omega) (by have hb := hbytes; simp only [Nat.zero_add] at hb; omega)
    rw [hr2] at hr
    cases hr
    exact .inr rfl
  · by_cases hroom : n + m ≤ cap
    · have hfit : n * i.size + news.length ≤ cur.size := by rw [hl, hcs, ← Nat.add_mul]; exact Nat.mul_le_mul_right _ hroom
      have hr2 := run_append_room (P := P) w t ty e i ht hi g n cap cur hg a m c news hl hnews h1 hroom hfit
      rw [hr2] at hr
      cases hr
      exact .inl rfl
    · have holds : ∀ j u, xs[j]? = some u → w.cell? ((⟨g, 0, none⟩ : Addr).add j) = some u := hown.cells (g := g) rfl
      have hr2 := run_append_grow (P := P) w t ty e i z ht hi hz ⟨g, 0, none⟩ n cap xs hown.1 holds a m c news hl hnews (by omega) h63' (growslice_fits (by omega) hbytes)
      rw [hr2] at hr
      cases hr
      exact .inr rfl

/-- One element, which lies in a new block, is appended to a row of the call's own. -/
theorem wpList_push {P : Program} {ops : Array Oper} {rest : List Oper} {o : Oper} {a : Act} {Q : Exit → Act → World → Prop} (w : World) (C : Array Value) (te : TypeId) (hgd : o.guard = none) (s x : Operand) (t : TypeId)
    (ho : o.op = .call { callee := .builtin .append, args := #[s, x], argTypes := #[t, t] })
    (B : Nat) (e : TypeId) (i : TypeInfo) (z : Value) (size bytes : Nat) (ht : P.underlying t = some (.slice e)) (hi : P.info? e = some i) (hz : i.zero = some z)
    (hsize : i.size = size) (hby : i.bytes = bytes) (hzs : z.cells.size = size) (hsz : 0 < size)
    (v : Value) (n : Nat) (xs : List Value) (hs : a.eval s = v) (hown : w.ownsRow B e size v n xs)
    (hx : a.eval x = .slice (some ⟨w.heap.size, 0, none⟩) 1 1) (hC : C.size = size) (h1 : ∀ u ∈ C.toList, u.oneCell' = true) (hn : (n + 1) * bytes ≤ 140737488355328) (hm : n + 1 ≤ maxLen) (hB : B ≤ w.heap.size)
    (h : ∀ v' w', w'.ownsRow B e size v' (n + 1) (xs ++ C.toList) → Turns v.ownBlock.toList w w' → (v'.ownBlock = v.ownBlock ∨ v'.ownBlock = some (w.heap.size + 1)) → wpList P ops Q rest (a.put o.dst v') w') :
    wpList P ops Q (o :: rest) a (w.alloc (.cells C te)) := by
  refine wpList_plain hgd fun K hK => ?_
  have hnews : ∀ j u, C.toList[j]? = some u → (w.alloc (.cells C te)).cell? ((⟨w.heap.size, 0, none⟩ : Addr).add j) = some u := by
    intro j u hu
    rw [Addr.add_lit, Nat.zero_add, cell_of_row _ w.heap.size j C te (0, 0) (heap_alloc_new w _)]
    simpa using hu
  obtain ⟨v', w', hr, r1, r2, r3⟩ := app_block (P := P) (w.alloc (.cells C te)) B t o.type e i z size bytes ht hi hz hsize hby hzs hsz v n xs (hown.alloc _) ⟨w.heap.size, 0, none⟩ 1 1 C.toList (by simpa using hC) hnews h1 hm hn (by simp; omega) (by decide)
  unfold Oper.wp execOp
  simp only [ho, resolve, invoke, builtin, Sem.run_bind, Sem.run_pure, Result.andThen_ok, List.map_toArray, List.map_cons, List.map_nil, hs, hx, hr]
  refine hK _ _ (h v' w' r1 ?_ (by simpa using r3))
  refine Turns.trans ((Turns.refl _ w).alloc _) ⟨r2.os, r2.tape, r2.output, r2.size, fun k hk hn' => r2.block k hk (fun e => hn' ?_)⟩
  rw [← e]
  simp

/-- A list that is being built: each element owns its blocks. -/
def ListOwn (S : Ty α) (B : Nat) (e : TypeId) (w : World) (v : Value) (l : List α) : Prop :=
  ∃ (xs : List Value) (bss : List (List Nat)), w.ownsRow B e S.size v l.length xs ∧ bss.length = l.length ∧ bss.flatten.Nodup ∧ (∀ b ∈ bss.flatten, B ≤ b ∧ some b ≠ v.ownBlock) ∧
    ∀ i x b, l[i]? = some x → bss[i]? = some b → S.own b w ((xs.drop (i * S.size)).take S.size) x

theorem ListOwn.nil {S : Ty α} {B : Nat} {e : TypeId} {w : World} : ListOwn S B e w (.slice none 0 0) [] :=
  ⟨[], [], World.ownsRow_nil _ _ _ _, rfl, by simp, by simp, by simp⟩
theorem ListOwn.lit {S : Ty α} {B : Nat} {e : TypeId} {w : World} (hB : B ≤ w.heap.size) : ListOwn S B e (w.alloc (.cells #[] e)) (.slice (some ⟨w.heap.size, 0, none⟩) 0 0) [] :=
  ⟨[], [], World.ownsRow_lit (size := S.size) w #[] 0 hB (by simp) (by simp), rfl, by simp, by simp, by simp⟩
theorem ListOwn.made {S : Ty α} {B : Nat} {e : TypeId} {w : World} {v : Value} (h : w.ownsRow B e S.size v 0 []) : ListOwn S B e w v [] :=
  ⟨[], [], h, rfl, by simp, by simp, by simp⟩
theorem ListOwn.row {S : Ty α} {B : Nat} {e : TypeId} {w : World} {v : Value} {l : List α} (h : ListOwn S B e w v l) : ∃ xs, w.ownsRow B e S.size v l.length xs := by
  obtain ⟨xs, _, h, _⟩ := h
  exact ⟨xs, h⟩
theorem ListOwn.more {S : Ty α} {B : Nat} {e : TypeId} {w w' : World} {v : Value} {l : List α} (h : ListOwn S B e w v l) (hm : More w w') : ListOwn S B e w' v l := by
  obtain ⟨xs, bss, h1, h2, h3, h4, h5⟩ := h
  exact ⟨xs, bss, ownsRow_more h1 hm, h2, h3, h4, fun i x b hx hb => Ty.own_more (h5 i x b hx hb) hm⟩
theorem ListOwn.turns {S : Ty α} {B : Nat} {e : TypeId} {w w' : World} {v : Value} {l : List α} {bs : List Nat} (h : ListOwn S B e w v l) (hm : Turns bs w w') (hb : ∀ k ∈ bs, k < B) : ListOwn S B e w' v l := by
  obtain ⟨xs, bss, h1, h2, h3, h4, h5⟩ := h
  refine ⟨xs, bss, ownsRow_turns h1 hm (fun g hg hgb => ?_), h2, h3, h4, fun i x b hx hb' => Ty.own_turns (h5 i x b hx hb') hm (fun k hk hkb => ?_)⟩
  · have := (ownsRow_lt h1 hg).1
    have := hb g hgb
    omega
  · have := (h4 k (List.mem_flatten.2 ⟨b, List.mem_of_getElem? hb', hk⟩)).1
    have := hb k hkb
    omega
theorem ListOwn.lt {S : Ty α} {B : Nat} {e : TypeId} {w : World} {v : Value} {l : List α} (h : ListOwn S B e w v l) {g : Nat} (hg : v.ownBlock = some g) : B ≤ g := by
  obtain ⟨xs, h⟩ := h.row
  exact (ownsRow_lt h hg).1

theorem chunk_append {xs ys : List Value} {n s i : Nat} (hl : xs.length = n * s) (hi : i < n) : ((xs ++ ys).drop (i * s)).take s = (xs.drop (i * s)).take s := by
  have h1 : (i + 1) * s ≤ n * s := Nat.mul_le_mul_right _ hi
  rw [Nat.succ_mul] at h1
  rw [List.drop_append_of_le_length (by omega), List.take_append_of_le_length (by rw [List.length_drop]; omega)]
theorem chunk_last {xs ys : List Value} {n s : Nat} (hl : xs.length = n * s) (hy : ys.length = s) : ((xs ++ ys).drop (n * s)).take s = ys := by
  rw [List.drop_append, hl, Nat.sub_self, List.drop_of_length_le (by omega), List.nil_append, List.drop_zero, List.take_of_length_le (by omega)]

/-- One more. w0: where the list stood before the element was made. -/
theorem ListOwn.push {S : Ty α} {B : Nat} {e : TypeId} {w0 w w' : World} {v v' : Value} {l : List α} {xs : List Value} {c : List Value} {x : α} {bss : List (List Nat)}
    (hrow : w.ownsRow B e S.size v l.length xs) (h2 : bss.length = l.length) (h3 : bss.flatten.Nodup) (h4 : ∀ b ∈ bss.flatten, B ≤ b ∧ some b ≠ v.ownBlock)
    (h5 : ∀ i x b, l[i]? = some x → bss[i]? = some b → S.own b w ((xs.drop (i * S.size)).take S.size) x)
    (hlt : ∀ b ∈ bss.flatten, b < w0.heap.size) (hvlt : ∀ g, v.ownBlock = some g → g < w0.heap.size) (hx : S.fresh w0.heap.size w c x) (hB : B ≤ w0.heap.size) (hw : w0.heap.size ≤ w.heap.size)
    (r1 : w'.ownsRow B e S.size v' (l.length + 1) (xs ++ c)) (r2 : Turns v.ownBlock.toList w w') (r3 : v'.ownBlock = v.ownBlock ∨ v'.ownBlock = some (w.heap.size + 1)) :
    ListOwn S B e w' v' (l ++ [x]) := by
  obtain ⟨bx, k1, k2, k3⟩ := hx
  have hin : ∀ k, k ∈ v.ownBlock.toList → v.ownBlock = some k := by
    intro k hk
    cases hv : v.ownBlock with
    | none => rw [hv] at hk; simp at hk
    | some g => rw [hv] at hk; simp at hk; rw [hk]
  have hxl : ∀ b ∈ bx, b < w.heap.size := S.own_lt k1
  refine ⟨xs ++ c, bss ++ [bx], by simpa using r1, by simp [h2], ?_, ?_, ?_⟩
  · rw [List.flatten_append, List.nodup_append]
    refine ⟨h3, by simpa using k2, fun a ha b hb hab => ?_⟩
    subst hab
    have := hlt a ha
    have := k3 a (by simpa using hb)
    omega
  · intro b hb
    rw [List.flatten_append] at hb
    rcases List.mem_append.1 hb with hb | hb
    · refine ⟨(h4 b hb).1, fun e => ?_⟩
      rcases r3 with r3 | r3
      · exact (h4 b hb).2 (e.trans r3)
      · rw [r3] at e
        have := hlt b hb
        simp at e
        omega
    · have hb : b ∈ bx := by simpa using hb
      have := k3 b hb
      refine ⟨by omega, fun e => ?_⟩
      rcases r3 with r3 | r3
      · have := hvlt b (r3.symm.trans e.symm)
        omega
      · rw [r3] at e
        have := hxl b hb
        simp at e
        omega
  · intro i y b hy hb
    by_cases hi : i < l.length
    · rw [List.getElem?_append_left hi] at hy
      rw [List.getElem?_append_left (by omega)] at hb
      rw [chunk_append hrow.1 hi]
      refine Ty.own_turns (h5 i y b hy hb) r2 (fun k hk hkv => ?_)
      exact (h4 k (List.mem_flatten.2 ⟨b, List.mem_of_getElem? hb, hk⟩)).2 (hin k hkv).symm
    · have hi' : i = l.length := by
        have := (List.getElem?_eq_some_iff.1 hy).1
        simp at this
        omega
      subst hi'
      simp at hy
      subst hy
      rw [← h2, List.getElem?_append_right (Nat.le_refl _)] at hb
      simp at hb
      subst hb
      have hc : c.length = S.size := S.len (S.own_rd k1)
      rw [chunk_last hrow.1 hc]
      refine Ty.own_turns k1 r2 (fun k hk hkv => ?_)
      have := hvlt k (hin k hkv)
      have := k3 k hk
      omega

theorem ListOwn.fresh {S : Ty α} {B : Nat} {e : TypeId} {w : World} {v : Value} {l : List α} (h : ListOwn S B e w v l) : (tSlice S).fresh B w [v] l := by
  obtain ⟨xs, bss, h1, h2, h3, h4, h5⟩ := h
  rcases h1.2 with ⟨rfl, h0⟩ | ⟨g, cap, cur, rfl, hg, hh, hn, hc, hs, ht⟩
  · have : l = [] := List.eq_nil_of_length_eq_zero h0
    subst this
    exact nil_fresh
  · refine ⟨g :: bss.flatten, ⟨some ⟨g, 0, none⟩, cap, rfl, hn, hc, (fun e => by cases e), .inr ⟨g, e, cur, bss, rfl, hh, hs, h2, rfl, ?_⟩⟩, ?_, ?_⟩
    · intro k x b hk hb
      have hkl : k < l.length := (List.getElem?_eq_some_iff.1 hk).1
      have := h5 k x b hk hb
      rw [← ht, List.drop_take, List.take_take] at this
      have h6 : (k + 1) * S.size ≤ l.length * S.size := Nat.mul_le_mul_right _ hkl
      rw [Nat.succ_mul] at h6
      rwa [Nat.min_eq_left (by omega)] at this
    · rw [List.nodup_cons]
      exact ⟨fun hgm => (h4 g hgm).2 rfl, h3⟩
    · intro b hb
      rcases List.mem_cons.1 hb with rfl | hb
      · exact hg
      · exact (h4 b hb).1

/-- 'out = append(out, x)', x just made: the list is one longer. -/
theorem wpList_pushOwn {P : Program} {ops : Array Oper} {rest : List Oper} {o : Oper} {a : Act} {Q : Exit → Act → World → Prop} {w : World} {C : Array Value} {te : TypeId} (S : Ty α) (w0 : World) (hgd : o.guard = none) (s x : Operand) (t : TypeId)
    (ho : o.op = .call { callee := .builtin .append, args := #[s, x], argTypes := #[t, t] })
    (B : Nat) (e : TypeId) (i : TypeInfo) (z : Value) (bytes : Nat) (ht : P.underlying t = some (.slice e)) (hi : P.info? e = some i) (hz : i.zero = some z)
    (hsize : i.size = S.size) (hby : i.bytes = bytes) (hzs : z.cells.size = S.size) (hsz : 0 < S.size)
    {v : Value} {l : List α} (hs : a.eval s = v) (hlist : ListOwn S B e w0 v l) (hmore : More w0 w)
    {N : Nat} (hx : a.eval x = .slice (some ⟨N, 0, none⟩) 1 1) (hN : w.heap.size = N) {y : α} (hy : S.fresh w0.heap.size w C.toList y) (hlen : Hid (l.length ≤ 2097152)) (hbytes : bytes ≤ 65536) (hB : Hid (B ≤ w0.heap.size))
    (h : ∀ v' w', ListOwn S B e w' v' (l ++ [y]) → (∀ W : World, W.heap.size = B → More W w → More W w') → wpList P ops Q rest (a.put o.dst v') w') :
    wpList P ops Q (o :: rest) a (w.alloc (.cells C te)) := by
  subst hN
  have hB := hB.out
  have hn : (l.length + 1) * bytes ≤ 140737488355328 := by
    have := Nat.mul_le_mul (show l.length + 1 ≤ 2097153 by have := hlen.out; omega) hbytes
    omega
  have hm : l.length + 1 ≤ maxLen := by have := hlen.out; unfold maxLen; omega
  obtain ⟨xs, bss, h1, h2, h3, h4, h5⟩ := hlist
  have hw := hmore.size
  have hat := Ty.fresh_at hy
  refine wpList_push w C te hgd s x t ho B e i z S.size bytes ht hi hz hsize hby hzs hsz v l.length xs hs (ownsRow_more h1 hmore) hx (by simpa using S.len hat) (S.one hat) hn hm (by omega) fun v' w' r1 r2 r3 => h v' w' ?_ ?_
  · refine ListOwn.push (w0 := w0) (ownsRow_more h1 hmore) h2 h3 h4 (fun i x b hx hb => Ty.own_more (h5 i x b hx hb) hmore) (fun b hb => ?_) (fun g hg => (ownsRow_lt h1 hg).2) hy hB hw r1 r2 r3
    obtain ⟨b', hb1, hb2⟩ := List.mem_flatten.1 hb
    obtain ⟨j, hj, rfl⟩ := List.getElem_of_mem hb1
    exact S.own_lt (h5 j _ _ (List.getElem?_eq_getElem (by omega)) (List.getElem?_eq_getElem hj)) b hb2
  · intro W hW hWm
    subst hW
    refine Below.trans hWm (r2.below hWm.size fun k hk => ?_)
    cases hv : v.ownBlock with
    | none => rw [hv] at hk; simp at hk
    | some g => rw [hv] at hk; simp at hk; rw [hk]; exact (ownsRow_lt h1 hv).1

theorem flat_fresh {S : Ty α} (F : Flat S) {B : Nat} {w : World} {x : α} (h : F.ok x) : S.fresh B w (F.enc x) x := ⟨[], (F.own_iff _ _ _ _).2 ⟨rfl, rfl, h⟩, by simp, by simp⟩
theorem vec_fresh {B : Nat} {w : World} {x y : Int} (h1 : In64 x) (h2 : In64 y) : tVec.fresh B w [.int .i64 x, .int .i64 y] (x, y) := flat_fresh fVec (x := (x, y)) ⟨h1, h2⟩


/-! ### A row that was made, filled element by element -/
def setCs (w : World) (g : Nat) : Nat → List Value → World
  | _, [] => w
  | o, c :: cs => setCs (w.setCell ⟨g, o, none⟩ c) g (o + 1) cs
def setL (xs : List Value) : Nat → List Value → List Value
  | _, [] => xs
  | o, c :: cs => setL (xs.set o c) (o + 1) cs
theorem setL_length (cs : List Value) : ∀ (xs : List Value) (o : Nat), (setL xs o cs).length = xs.length := by
  induction cs with
  | nil => intro xs o; rfl
  | cons c cs ih => intro xs o; rw [setL, ih]; simp
theorem setL_get (cs : List Value) : ∀ (xs : List Value) (o j : Nat), (setL xs o cs)[j]? = if o ≤ j ∧ j < o + cs.length ∧ j < xs.length then cs[j - o]? else xs[j]? := by
  induction cs with
  | nil => intro xs o j; simp [setL]; omega
  | cons c cs ih =>
    intro xs o j
    rw [setL, ih, List.length_set, List.length_cons, List.getElem?_set]
    by_cases h1 : o = j
    · subst h1
      rw [if_neg (by omega), if_pos rfl]
      by_cases h2 : o < xs.length
      · rw [if_pos h2, if_pos (by omega), Nat.sub_self]; rfl
      · rw [if_neg h2, if_neg (by omega), List.getElem?_eq_none (by omega)]
    · rw [if_neg h1]
      by_cases h2 : o + 1 ≤ j ∧ j < o + 1 + cs.length ∧ j < xs.length
      · rw [if_pos h2, if_pos (by omega), show j - o = (j - (o + 1)) + 1 by omega, List.getElem?_cons_succ]
      · rw [if_neg h2, if_neg (by omega)]
theorem setCs_row (cs : List Value) : ∀ (w : World) (B e s g n cap o : Nat) (xs : List Value), w.ownsRow B e s (.slice (some ⟨g, 0, none⟩) n cap) n xs →
    (setCs w g o cs).ownsRow B e s (.slice (some ⟨g, 0, none⟩) n cap) n (setL xs o cs) := by
  induction cs with
  | nil => intro w B e s g n cap o xs h; exact h
  | cons c cs ih => intro w B e s g n cap o xs h; exact ih _ _ _ _ _ _ _ _ _ (h.stored o c).1
theorem setCs_turns (cs : List Value) : ∀ (w : World) (g o : Nat), Turns [g] w (setCs w g o cs) := by
  induction cs with
  | nil => intro w g o; exact Turns.refl _ _
  | cons c cs ih => intro w g o; exact Turns.trans ((Turns.refl _ _).setCell (.inl (by simp)) _) (ih _ _ _)
theorem setL_chunk_same {xs cs : List Value} {k s n : Nat} (hx : xs.length = n * s) (hc : cs.length = s) (hk : k < n) : ((setL xs (k * s) cs).drop (k * s)).take s = cs := by
  have h1 : (k + 1) * s ≤ n * s := Nat.mul_le_mul_right _ hk
  rw [Nat.succ_mul] at h1
  apply List.ext_getElem?
  intro j
  rw [List.getElem?_take]
  by_cases hj : j < s
  · rw [if_pos hj, List.getElem?_drop, setL_get, if_pos (by omega)]
    congr 1
    omega
  · rw [if_neg hj, List.getElem?_eq_none (by omega)]
theorem setL_chunk_other {xs cs : List Value} {k i s : Nat} (hc : cs.length = s) (hk : i ≠ k) : ((setL xs (k * s) cs).drop (i * s)).take s = (xs.drop (i * s)).take s := by
  apply List.ext_getElem?
  intro j
  rw [List.getElem?_take, List.getElem?_take]
  by_cases hj : j < s
  · rw [if_pos hj, if_pos hj, List.getElem?_drop, List.getElem?_drop, setL_get, if_neg]
    rintro ⟨h1, h2, _⟩
    rcases Nat.lt_or_gt_of_ne hk with h | h
    · have h3 : (i + 1) * s ≤ k * s := Nat.mul_le_mul_right _ h
      rw [Nat.succ_mul] at h3
      omega
    · have h3 : (k + 1) * s ≤ i * s := Nat.mul_le_mul_right _ h
      rw [Nat.succ_mul] at h3
      omega
  · rw [if_neg hj, if_neg hj]

/-- A made row of n elements at block g; the first k are those of l. -/
def RowK (S : Ty α) (B : Nat) (e : TypeId) (w : World) (g n cap : Nat) (l : List α) (k : Nat) : Prop :=
  ∃ (xs : List Value) (bss : List (List Nat)), w.ownsRow B e S.size (.slice (some ⟨g, 0, none⟩) n cap) n xs ∧ bss.length = k ∧ bss.flatten.Nodup ∧ (∀ b ∈ bss.flatten, B ≤ b ∧ b ≠ g ∧ b < w.heap.size) ∧ g < w.heap.size ∧
    ∀ i x b, i < k → l[i]? = some x → bss[i]? = some b → S.own b w ((xs.drop (i * S.size)).take S.size) x

theorem RowK.start {S : Ty α} {B : Nat} {e : TypeId} {w : World} {g n cap : Nat} {l : List α} {xs : List Value} (h : w.ownsRow B e S.size (.slice (some ⟨g, 0, none⟩) n cap) n xs) : RowK S B e w g n cap l 0 :=
  ⟨xs, [], h, rfl, by simp, by simp, (ownsRow_lt h rfl).2, fun i x b hi => by omega⟩
theorem RowK.more {S : Ty α} {B : Nat} {e : TypeId} {w w' : World} {g n cap k : Nat} {l : List α} (h : RowK S B e w g n cap l k) (hm : More w w') : RowK S B e w' g n cap l k := by
  obtain ⟨xs, bss, h1, h2, h3, h4, h5, h6⟩ := h
  have := hm.size
  exact ⟨xs, bss, ownsRow_more h1 hm, h2, h3, fun b hb => ⟨(h4 b hb).1, (h4 b hb).2.1, Nat.lt_of_lt_of_le (h4 b hb).2.2 this⟩, Nat.lt_of_lt_of_le h5 this, fun i x b hi hx hb => Ty.own_more (h6 i x b hi hx hb) hm⟩
/-- The cells of element k are there. -/
theorem RowK.cells {S : Ty α} {B : Nat} {e : TypeId} {w : World} {g n cap k : Nat} {l : List α} (h : RowK S B e w g n cap l k) (j : Nat) (hj : j < n * S.size) : (∃ u, w.cell? ⟨g, j, none⟩ = some u) ∧ w.frozen? ⟨g, j, none⟩ = false := by
  obtain ⟨xs, bss, h1, _⟩ := h
  refine ⟨?_, h1.frozenAt j⟩
  rw [h1.cellAt j hj]
  exact ⟨_, List.getElem?_eq_getElem (by rw [h1.1]; exact hj)⟩
theorem RowK.base {S : Ty α} {B : Nat} {e : TypeId} {w : World} {g n cap k : Nat} {l : List α} (h : RowK S B e w g n cap l k) : B ≤ g ∧ g < w.heap.size := by
  obtain ⟨xs, bss, h1, _⟩ := h
  exact ownsRow_lt h1 rfl
theorem RowK.step {S : Ty α} {B : Nat} {e : TypeId} {w0 w : World} {g n cap k : Nat} {l : List α} {x : α} {c : List Value} (h : RowK S B e w0 g n cap l k) (hm : More w0 w) (hk : k < n) (hx : l[k]? = some x) (hf : S.fresh w0.heap.size w c x) :
    RowK S B e (setCs w g (k * S.size) c) g n cap l (k + 1) := by
  obtain ⟨xs, bss, h1, h2, h3, h4, h5, h6⟩ := h
  obtain ⟨bx, k1, k2, k3⟩ := hf
  have h1' := ownsRow_more h1 hm
  have hgB := (ownsRow_lt h1 rfl).1
  have hc : c.length = S.size := S.len (S.own_rd k1)
  have ht := setCs_turns c w g (k * S.size)
  have hsz := hm.size
  have hts := ht.size
  refine ⟨setL xs (k * S.size) c, bss ++ [bx], setCs_row c _ _ _ _ _ _ _ _ _ h1', by simp [h2], ?_, ?_, by omega, ?_⟩
  · rw [List.flatten_append, List.nodup_append]
    refine ⟨h3, by simpa using k2, fun a ha b hb hab => ?_⟩
    subst hab
    have := (h4 a ha).2.2
    have := k3 a (by simpa using hb)
    omega
  · intro b hb
    rw [List.flatten_append] at hb
    rcases List.mem_append.1 hb with hb | hb
    · have := h4 b hb
      exact ⟨this.1, this.2.1, by omega⟩
    · have hb : b ∈ bx := by simpa using hb
      have := k3 b hb
      have := S.own_lt k1 b hb
      have : B ≤ g := hgB
      exact ⟨by omega, by omega, by omega⟩
  · intro i y b hi hy hb
    by_cases hik : i = k
    · subst hik
      rw [hx] at hy
      cases hy
      rw [List.getElem?_append_right (by omega), h2, Nat.sub_self] at hb
      simp at hb
      subst hb
      rw [setL_chunk_same h1.1 hc hk]
      refine Ty.own_turns k1 ht (fun j hj hjg => ?_)
      have := k3 j hj
      simp at hjg
      omega
    · rw [List.getElem?_append_left (by omega)] at hb
      rw [setL_chunk_other hc hik]
      refine Ty.own_turns (Ty.own_more (h6 i y b (by omega) hy hb) hm) ht (fun j hj hjg => ?_)
      simp at hjg
      exact (h4 j (List.mem_flatten.2 ⟨b, List.mem_of_getElem? hb, hj⟩)).2.1 hjg
theorem RowK.fresh {S : Ty α} {B : Nat} {e : TypeId} {w : World} {g n cap : Nat} {l : List α} (h : RowK S B e w g n cap l n) (hn : n = l.length) : (tSlice S).fresh B w [.slice (some ⟨g, 0, none⟩) n cap] l := by
  subst hn
  obtain ⟨xs, bss, h1, h2, h3, h4, h5, h6⟩ := h
  refine ListOwn.fresh (e := e) ⟨xs, bss, h1, h2, h3, fun b hb => ⟨(h4 b hb).1, fun e => (h4 b hb).2.1 (by simpa [Value.ownBlock] using e)⟩, fun i x b hx hb => h6 i x b ?_ hx hb⟩
  exact (List.getElem?_eq_some_iff.1 hx).1


/-! ### Rows of flat elements that are written in place -/
theorem own_row {S : Ty α} (F : Flat S) {bs : List Nat} {w : World} {v : Value} {l : List α} (h : (tSlice S).own bs w [v] l) :
    l = [] ∨ ∃ g cap e xs, v = .slice (some ⟨g, 0, none⟩) l.length cap ∧ bs = [g] ∧ w.ownsRow g e S.size v l.length xs ∧ 0 < l.length := by
  obtain ⟨ao, cap, hv, h1, h2, h3, h4⟩ := h
  simp at hv
  subst hv
  by_cases hl : l = []
  · exact .inl hl
  · right
    rcases h4 with h4 | ⟨g, e, cur, bss, rfl, hg, hs, hb, rfl, hx⟩
    · exact absurd h4.1 hl
    have hbs : bss.flatten = [] := by
      rw [List.flatten_eq_nil_iff]
      intro b hb'
      obtain ⟨j, hj, rfl⟩ := List.getElem_of_mem hb'
      exact ((F.own_iff _ _ _ _).1 (hx j _ _ (List.getElem?_eq_getElem (by omega)) (List.getElem?_eq_getElem hj))).1
    have hlen : (cur.toList.take (l.length * S.size)).length = l.length * S.size := by
      have hcl : cur.toList.length = cap * S.size := by simpa using hs
      rw [List.length_take, hcl]
      exact Nat.min_eq_left (Nat.mul_le_mul_right _ h1)
    exact ⟨g, cap, e, _, rfl, by rw [hbs], ⟨hlen, .inr ⟨g, cap, cur, rfl, Nat.le_refl _, hg, h1, h2, hs, rfl⟩⟩, List.length_pos_iff.2 hl⟩

theorem RowK.own_flat {S : Ty α} (F : Flat S) {B : Nat} {e : TypeId} {w : World} {g n cap : Nat} {l : List α} (h : RowK S B e w g n cap l n) (hn : n = l.length) (hl : 0 < l.length) : (tSlice S).own [g] w [.slice (some ⟨g, 0, none⟩) n cap] l := by
  subst hn
  obtain ⟨xs, bss, h1, h2, h3, h4, h5, h6⟩ := h
  have hbs : bss.flatten = [] := by
    rw [List.flatten_eq_nil_iff]
    intro b hb'
    obtain ⟨j, hj, rfl⟩ := List.getElem_of_mem hb'
    exact ((F.own_iff _ _ _ _).1 (h6 j _ _ (by omega) (List.getElem?_eq_getElem (by omega)) (List.getElem?_eq_getElem hj))).1
  have hne : l ≠ [] := by rintro rfl; simp at hl
  obtain ⟨bs, hb, _, _⟩ := ListOwn.fresh (e := e) (S := S) (B := B) (w := w) (l := l) ⟨xs, bss, h1, h2, h3, fun b hb => ⟨(h4 b hb).1, fun e => (h4 b hb).2.1 (by simpa [Value.ownBlock] using e)⟩, fun i x b hx hb => h6 i x b (List.getElem?_eq_some_iff.1 hx).1 hx hb⟩
  rcases own_row F hb with h | ⟨g', cap', e', xs', hv, rfl, _⟩
  · exact absurd h hne
  · simp at hv
    obtain ⟨rfl, _⟩ := hv
    exact hb

/-- The ints from k on, as marks. -/
def mk2 (n : Nat) (k : Int) : List QV := (List.range n).map fun (i : Nat) => (k + 2 * (i : Int), k + 2 * (i : Int) + 1)
theorem mk2_get {n i : Nat} {k : Int} (h : i < n) : (mk2 n k)[i]? = some (k + 2 * i, k + 2 * i + 1) := by
  unfold mk2
  rw [List.getElem?_map, List.getElem?_range h]
  rfl
theorem mk2_len (n : Nat) (k : Int) : (mk2 n k).length = n := by simp [mk2]
def mk1 (n : Nat) (k : Int) : List Int := (List.range n).map fun (i : Nat) => k + (i : Int)
theorem mk1_get {n i : Nat} {k : Int} (h : i < n) : (mk1 n k)[i]? = some (k + i) := by
  unfold mk1
  rw [List.getElem?_map, List.getElem?_range h]
  rfl
theorem mk1_len (n : Nat) (k : Int) : (mk1 n k).length = n := by simp [mk1]

/-- A literal list of flat elements, in a new block. -/
theorem lit_fresh {S : Ty α} (F : Flat S) {w : World} {C : Array Value} {e : TypeId} {N n : Nat} {l : List α} (hN : w.heap.size = N) (hC : C.toList = l.flatMap F.enc) (hn : l.length = n) (hs : n ≤ 1048576) (hok : ∀ x ∈ l, F.ok x) :
    (tSlice S).fresh w.heap.size (w.alloc (.cells C e)) [.slice (some ⟨N, 0, none⟩) n n] l := by
  subst hN
  subst hn
  have hl := length_flatMap_chunk (f := F.enc) (s := S.size) l (fun x hx => F.len (hok x hx))
  have h := World.ownsRow_lit (base := w.heap.size) (e := e) (size := S.size) w C l.length (Nat.le_refl _) (by unfold maxLen; omega) (by rw [← hl, ← hC]; simp)
  rw [hC] at h
  exact fresh_of_row F h hok

end Go.Proofs.Ytkhcblheekfdmaa
