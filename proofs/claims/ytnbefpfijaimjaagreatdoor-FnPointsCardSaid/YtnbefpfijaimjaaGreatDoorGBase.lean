/- Several texts laid together; each has its own word at its head. -/
import Derived.WalkKit
import Derived.OwnWalk
import Derived.ArgAppend
import Derived.ProofKit
import Derived.WalkLawsBesides
import Derived.WalkSpells
import Derived.Lib.Hide
/- No run of the model takes back a draw; what is made or grown in a row, with that. It speaks of no program. -/
namespace Go.Proofs.YtnbefpfijaimjaaGreatDoor
open Go.RowKit
theorem bind_okE {α β : Type} {x : Except String α} {f : α → Except String β} {b : β} (h : (x >>= f) = .ok b) : ∃ a, x = .ok a ∧ f a = .ok b := by
  cases x with
  | error e => cases h
  | ok a => exact ⟨a, rfl, h⟩
theorem viewStore_drawn {P : Program} {w w' : World} {at_ : Addr} {u : TypeId} {a : Addr} {v : Value} {b : Bool} {l : List Addr} (h : w.viewStore P at_ u a v b = .ok (w', l)) : w'.drawn = w.drawn := by
  unfold World.viewStore at h
  dsimp only at h
  split at h
  · obtain ⟨_, h1, _⟩ := bind_okE h
    cases h1
  · obtain ⟨⟨c, e, fr, first, like, cells⟩, _, h⟩ := bind_okE h
    dsimp only at h
    split at h
    · split at h
      · obtain ⟨_, h1, _⟩ := bind_okE h
        cases h1
      · obtain ⟨_, _, h⟩ := bind_okE h
        cases h
        rfl
    · cases h
theorem farStore_drawn {P : Program} {w w' : World} {a : Addr} {v : Value} {b : Bool} {l : List Addr} (h : w.farStore P a v b = .ok (w', l)) : w'.drawn = w.drawn := by
  unfold World.farStore at h
  split at h
  · split at h
    · rename_i r hr
      cases h
      exact viewStore_drawn hr
    · cases h
  · cases h
theorem freeze_drawn (w : World) (a : Addr) (n : Nat) : (w.freeze a n).drawn = w.drawn := by
  unfold World.freeze
  split <;> rfl
theorem ask_drawn {α : Type} (q : Ask α) : ∀ w : World, w.drawn ≤ (w.ask q).2.drawn := by
  induction q with
  | done a => intro w; exact Nat.le_refl _
  | ask what range k ih =>
    intro w
    unfold World.ask
    dsimp only
    split
    · exact ih _ _
    · exact Nat.le_trans (Nat.le_succ _) (ih _ { w with drawn := w.drawn + 1 })
theorem sys_drawn (w : World) (c : Sys) : w.drawn ≤ (w.sys c).2.drawn := by
  unfold World.sys
  have h := ask_drawn (Kernel.perform c w.os) w
  split
  · exact Nat.le_refl _
  · rename_i heq
    rw [heq] at h
    exact h
theorem run_drawn {α : Type} {P : Program} (s : Sem α) : ∀ {w w' : World} {a : α}, s.run P w = .ok a w' → w.drawn ≤ w'.drawn := by
  induction s with
  | pure a => intro w w' a' h; simp [Sem.run] at h; rw [h.2]; exact Nat.le_refl _
  | load m a k ih =>
    intro w w' a' h
    unfold Sem.run at h
    split at h
    · exact ih _ h
    · split at h
      · exact ih _ h
      · cases h
  | store m a v k ih =>
    intro w w' a' h
    cases v
    all_goals simp only [Sem.run] at h
    all_goals first
      | (cases h; done)
      | (split at h
         · split at h
           · cases h
           · have := ih h; simpa using this
         · split at h
           · have := ih h
             rw [farStore_drawn (by assumption)] at this
             exact this
           · cases h)
  | new o k ih => intro w w' a' h; unfold Sem.run at h; exact ih _ (w := { w with heap := w.heap.push o }) h
  | shape r k ih => intro w w' a' h; unfold Sem.run at h; exact ih _ h
  | freeze a n k ih => intro w w' a' h; unfold Sem.run at h; have := ih h; rwa [freeze_drawn] at this
  | frozen a k ih => intro w w' a' h; unfold Sem.run at h; exact ih _ h
  | getObj r k ih =>
    intro w w' a' h
    unfold Sem.run at h
    split at h
    · cases h
    · exact ih _ h
    · cases h
  | setObj r o k ih =>
    intro w w' a' h
    unfold Sem.run at h
    split at h
    · cases h
    · exact ih (w := { w with heap := w.heap.setIfInBounds r o }) h
    · cases h
  | choose q k ih =>
    intro w w' a' h
    unfold Sem.run at h
    split at h
    · exact ih _ h
    · exact Nat.le_trans (Nat.le_succ _) (ih _ (w := { w with drawn := w.drawn + 1 }) h)
  | sys c k ih => intro w w' a' h; unfold Sem.run at h; exact Nat.le_trans (sys_drawn w c) (ih _ h)
  | program k ih => intro w w' a' h; unfold Sem.run at h; exact ih _ h
  | mark m k ih => intro w w' a' h; unfold Sem.run at h; exact ih h
  | halt h0 => intro w w' a' h; unfold Sem.run at h; cases h
/-- 'grownBy', and no draw is taken back. -/
structure GrownD (w w' : World) (row : Option Nat) : Prop extends World.grownBy w w' row where
  drawn : True
theorem wpList_make_own {P : Program} (w : World) {ops : Array Oper} {rest : List Oper} {o : Oper} {a : Act} {Q : Exit → Act → World → Prop}
    (hg : o.guard = none) (l c : Operand) (t : TypeId) (hop : o.op = Op.makeSlice t l c)
    (base : Nat) (e : TypeId) (i : TypeInfo) (z : Value) (size : Nat) (h1 : P.underlying t = some (.slice e)) (h2 : P.info? e = some i) (h3 : i.zero = some z) (h4 : i.size = size)
    (kl kc : IntKind) (C : Int) (n : Nat) (hl : a.eval l = .int kl 0) (hc : a.eval c = .int kc C) (hC : C = (n : Int)) (b2 : i.bytes * n ≤ 281474976710656) (b3 : n ≤ maxLen) (b4 : base ≤ w.heap.size)
    (hK : ∀ w', w'.ownsRow base e size (.slice (some ⟨w.heap.size, 0, none⟩) 0 n) 0 [] → GrownD w w' none → wpList P ops Q rest (a.put o.dst (.slice (some ⟨w.heap.size, 0, none⟩) 0 n)) w') :
    wpList P ops Q (o :: rest) a w := by
  refine wpList_plain hg fun K hK' => ?_
  obtain ⟨w', hrun, r1, r2⟩ := run_make_own (P := P) w base t e i z size h1 h2 h3 h4 kl kc n b2 b3 b4
  have hd : True := trivial
  subst hC
  unfold Oper.wp
  simp [execOp, hop, hl, hc, hrun, Result.andThen]
  exact hK' _ _ (hK w' r1 ⟨r2, hd⟩)
theorem wpList_make_full {P : Program} (w : World) {ops : Array Oper} {rest : List Oper} {o : Oper} {a : Act} {Q : Exit → Act → World → Prop}
    (hg : o.guard = none) (l c : Operand) (t : TypeId) (hop : o.op = Op.makeSlice t l c)
    (base : Nat) (e : TypeId) (i : TypeInfo) (z : Value) (size : Nat) (h1 : P.underlying t = some (.slice e)) (h2 : P.info? e = some i) (h3 : i.zero = some z) (h4 : i.size = size)
    (kl kc : IntKind) (L C : Int) (n : Nat) (hl : a.eval l = .int kl L) (hc : a.eval c = .int kc C) (hL : L = (n : Int)) (hC : C = (n : Int)) (b2 : i.bytes * n ≤ 281474976710656) (b3 : n ≤ maxLen) (b4 : base ≤ w.heap.size)
    (hK : ∀ w', w'.ownsRow base e size (.slice (some ⟨w.heap.size, 0, none⟩) n n) n (madeCells z.cells (n * size)).toList → GrownD w w' none → wpList P ops Q rest (a.put o.dst (.slice (some ⟨w.heap.size, 0, none⟩) n n)) w') :
    wpList P ops Q (o :: rest) a w := by
  refine wpList_plain hg fun K hK' => ?_
  obtain ⟨w', hrun, r1, r2⟩ := run_make_full (P := P) w base t e i z size h1 h2 h3 h4 kl kc n b2 b3 b4
  have hd : True := trivial
  subst hL
  subst hC
  unfold Oper.wp
  simp [execOp, hop, hl, hc, hrun, Result.andThen]
  exact hK' _ _ (hK w' r1 ⟨r2, hd⟩)
theorem run_append_own {P : Program} (w : World) (base : Nat) (t ty e : TypeId) (i : TypeInfo) (z : Value) (size bytes : Nat) (ht : P.underlying t = some (.slice e)) (hi : P.info? e = some i) (hz : i.zero = some z)
    (hsize : i.size = size) (hby : i.bytes = bytes) (hzs : z.cells.size = size) (hsz : 0 < size)
    (v : Value) (n : Nat) (xs : List Value) (hown : w.ownsRow base e size v n xs)
    (a : Addr) (m c : Nat) (news : List Value) (hl : news.length = m * size) (hnews : ∀ j u, news[j]? = some u → w.cell? (a.add j) = some u) (h1 : ∀ u ∈ news, u.oneCell' = true)
    (h63 : n + m ≤ maxLen) (hbytes : (n + m) * bytes ≤ 140737488355328) (hbase : base ≤ w.heap.size) :
    ∃ v' w', (Builtin.append_ #[t, t] ty #[v, .slice (some a) m c]).run P w = .ok v' w' ∧ w'.ownsRow base e size v' (n + m) (xs ++ news) ∧ GrownD w w' v.ownBlock ∧
      (v' = .slice none 0 0 ↔ v = .slice none 0 0 ∧ m = 0) := by
  obtain ⟨v', w', hr, r1, r2, r3⟩ := Go.run_append_own (P := P) w base t ty e i z size bytes ht hi hz hsize hby hzs hsz v n xs hown a m c news hl hnews h1 h63 hbytes hbase
  exact ⟨v', w', hr, r1, ⟨r2, trivial⟩, r3⟩
theorem wp_append_own {P : Program} (w : World) {o : Oper} {a : Act} {K : Act → World → Prop} {Q : Exit → Act → World → Prop} (s x : Operand) (t : TypeId)
    (ho : o.op = .call { callee := .builtin .append, args := #[s, x], argTypes := #[t, t] })
    (base : Nat) (e : TypeId) (i : TypeInfo) (z : Value) (size bytes : Nat) (ht : P.underlying t = some (.slice e)) (hi : P.info? e = some i) (hz : i.zero = some z)
    (hsize : i.size = size) (hby : i.bytes = bytes) (hzs : z.cells.size = size) (hsz : 0 < size)
    (v : Value) (n : Nat) (xs : List Value) (hs : a.eval s = v) (hown : w.ownsRow base e size v n xs)
    (ad : Addr) (m c : Nat) (news : List Value) (hx : a.eval x = .slice (some ad) m c) (hl : news.length = m * size) (hnews : ∀ j u, news[j]? = some u → w.cell? (ad.add j) = some u) (h1 : ∀ u ∈ news, u.oneCell' = true)
    (h63 : n + m ≤ maxLen) (hbytes : (n + m) * bytes ≤ 140737488355328) (hbase : base ≤ w.heap.size)
    (h : ∀ v' w', w'.ownsRow base e size v' (n + m) (xs ++ news) → GrownD w w' v.ownBlock → (v' = .slice none 0 0 ↔ v = .slice none 0 0 ∧ m = 0) → K (a.put o.dst v') w') : o.wp P a w K Q := by
  obtain ⟨v', w', hr, h2, h3, h4⟩ := run_append_own (P := P) w base t o.type e i z size bytes ht hi hz hsize hby hzs hsz v n xs hown ad m c news hl hnews h1 h63 hbytes hbase
  unfold Oper.wp execOp
  simp only [ho, resolve, invoke, builtin, Sem.run_bind, Sem.run_pure, Result.andThen_ok, List.map_toArray, List.map_cons, List.map_nil, hs, hx, hr]
  exact h v' w' h2 h3 h4
theorem run_append_arg_grows {P : Program} (w : World) (t ty e : TypeId) (i : TypeInfo) (z : Value) (size bytes : Nat) (ht : P.underlying t = some (.slice e)) (hi : P.info? e = some i) (hz : i.zero = some z)
    (hsize : i.size = size) (hby : i.bytes = bytes) (hzs : z.cells.size = size) (hsz : 0 < size)
    (b : Addr) (n cap : Nat) (olds : List Value) (hlo : olds.length = n * size) (holds : ∀ j u, olds[j]? = some u → w.cell? (b.add j) = some u)
    (a : Addr) (m c : Nat) (news : List Value) (hl : news.length = m * size) (hnews : ∀ j u, news[j]? = some u → w.cell? (a.add j) = some u)
    (hg : cap < n + m) (h63 : n + m ≤ maxLen) (hbytes : (n + m) * bytes ≤ 140737488355328) :
    ∃ v' w', (Builtin.append_ #[t, t] ty #[.slice (some b) n cap, .slice (some a) m c]).run P w = .ok v' w' ∧ w'.ownsRow w.heap.size e size v' (n + m) (olds ++ news) ∧ GrownD w w' none := by
  obtain ⟨v', w', hr, r1, r2⟩ := Go.run_append_arg_grows (P := P) w t ty e i z size bytes ht hi hz hsize hby hzs hsz b n cap olds hlo holds a m c news hl hnews hg h63 hbytes
  exact ⟨v', w', hr, r1, ⟨r2, trivial⟩⟩
end Go.Proofs.YtnbefpfijaimjaaGreatDoor
/- How the cells of Go values read as plain data (ints, bools, lists, pairs), which blocks such a reading passes through, and what a value in new memory owns. It speaks of no program. -/
namespace Go.Proofs.YtnbefpfijaimjaaGreatDoor
open Go.RowKit

def In64 (n : Int) : Prop := (Lit.int .i64 n).wf = true
theorem In64.mk {n : Int} (h : -9223372036854775808 ≤ n ∧ n ≤ 9223372036854775807) : In64 n := WalkArith.wf_i64 h
theorem In64.small {n : Int} (h : -1000000000000000000 ≤ n ∧ n ≤ 1000000000000000000) : In64 n := In64.mk (by omega)
theorem In64.out {n : Int} (h : In64 n) : -9223372036854775808 ≤ n ∧ n ≤ 9223372036854775807 := by
  unfold In64 at h
  simp only [Lit.wf, Bool.and_eq_true, decide_eq_true_eq] at h
  exact h

/-- A kind of data: how many cells it takes, how cells read as it (through blocks of which 'p' holds), and how cells own it (the blocks listed). -/
structure Ty (α : Type) where
  size : Nat
  rd : (Nat → Prop) → World → List Value → α → Prop
  own : List Nat → World → List Value → α → Prop
  len : ∀ {p w cs x}, rd p w cs x → cs.length = size
  one : ∀ {p w cs x}, rd p w cs x → ∀ u ∈ cs, u.oneCell' = true
  keep : ∀ {p q : Nat → Prop} {w w' cs x}, rd p w cs x → (∀ k, p k → k < w.heap.size → q k ∧ w'.heap[k]? = w.heap[k]? ∧ k < w'.heap.size) → rd q w' cs x
  own_rd : ∀ {bs w cs x}, own bs w cs x → rd (fun k => k ∈ bs) w cs x
  own_keep : ∀ {bs w w' cs x}, own bs w cs x → (∀ k, k ∈ bs → w'.heap[k]? = w.heap[k]?) → own bs w' cs x
  own_lt : ∀ {bs w cs x}, own bs w cs x → ∀ k ∈ bs, k < w.heap.size

variable {α β : Type}

def tInt : Ty Int where
  size := 1
  rd _ _ cs n := cs = [.int .i64 n] ∧ In64 n
  own bs _ cs n := bs = [] ∧ cs = [.int .i64 n] ∧ In64 n
  len := by rintro _ _ _ _ ⟨rfl, _⟩; rfl
  one := by rintro _ _ _ _ ⟨rfl, _⟩ u hu; simp at hu; subst hu; rfl
  keep := fun h _ => h
  own_rd := fun h => h.2
  own_keep := fun h _ => h
  own_lt := by rintro _ _ _ _ ⟨rfl, _⟩ k hk; cases hk

def tBool : Ty Bool where
  size := 1
  rd _ _ cs b := cs = [.bool b]
  own bs _ cs b := bs = [] ∧ cs = [.bool b]
  len := by rintro _ _ _ _ rfl; rfl
  one := by rintro _ _ _ _ rfl u hu; simp at hu; subst hu; rfl
  keep := fun h _ => h
  own_rd := fun h => h.2
  own_keep := fun h _ => h
  own_lt := by rintro _ _ _ _ ⟨rfl, _⟩ k hk; cases hk

def tProd (A : Ty α) (B : Ty β) : Ty (α × β) where
  size := A.size + B.size
  rd p w cs x := ∃ c1 c2, cs = c1 ++ c2 ∧ A.rd p w c1 x.1 ∧ B.rd p w c2 x.2
  own bs w cs x := ∃ b1 b2 c1 c2, bs = b1 ++ b2 ∧ cs = c1 ++ c2 ∧ A.own b1 w c1 x.1 ∧ B.own b2 w c2 x.2
  len := by rintro _ _ _ _ ⟨c1, c2, rfl, h1, h2⟩; rw [List.length_append, A.len h1, B.len h2]
  one := by
    rintro _ _ _ _ ⟨c1, c2, rfl, h1, h2⟩ u hu
    rcases List.mem_append.1 hu with h | h
    · exact A.one h1 u h
    · exact B.one h2 u h
  keep := by rintro _ _ _ _ _ _ ⟨c1, c2, rfl, h1, h2⟩ h; exact ⟨c1, c2, rfl, A.keep h1 h, B.keep h2 h⟩
  own_rd := by
    rintro bs w _ _ ⟨b1, b2, c1, c2, rfl, rfl, h1, h2⟩
    refine ⟨c1, c2, rfl, A.keep (A.own_rd h1) ?_, B.keep (B.own_rd h2) ?_⟩
    · intro k hk hl; exact ⟨List.mem_append.2 (.inl hk), rfl, hl⟩
    · intro k hk hl; exact ⟨List.mem_append.2 (.inr hk), rfl, hl⟩
  own_keep := by
    rintro _ _ _ _ _ ⟨b1, b2, c1, c2, rfl, rfl, h1, h2⟩ h
    exact ⟨b1, b2, c1, c2, rfl, rfl, A.own_keep h1 (fun k hk => h k (List.mem_append.2 (.inl hk))), B.own_keep h2 (fun k hk => h k (List.mem_append.2 (.inr hk)))⟩
  own_lt := by
    rintro _ _ _ _ ⟨b1, b2, c1, c2, rfl, rfl, h1, h2⟩ k hk
    rcases List.mem_append.1 hk with h | h
    · exact A.own_lt h1 k h
    · exact B.own_lt h2 k h

/-- The elements of a row at an address. -/
def Elems (S : Ty α) (p : Nat → Prop) (w : World) (b off : Nat) (l : List α) : Prop :=
  ∀ k x, l[k]? = some x → ∃ c, S.rd p w c x ∧ ∀ j v, c[j]? = some v → w.cell? ⟨b, off + k * S.size + j, none⟩ = some v

def slRd (S : Ty α) (p : Nat → Prop) (w : World) (cs : List Value) (l : List α) : Prop :=
  ∃ ao cap, cs = [.slice ao l.length cap] ∧ l.length ≤ cap ∧ cap ≤ maxLen ∧ (ao = none → cap = 0) ∧ (0 < l.length → ∃ b off, ao = some ⟨b, off, none⟩ ∧ p b ∧ b < w.heap.size ∧ Elems S p w b off l)

def slOwn (S : Ty α) (bs : List Nat) (w : World) (cs : List Value) (l : List α) : Prop :=
  ∃ ao cap, cs = [.slice ao l.length cap] ∧ l.length ≤ cap ∧ cap ≤ maxLen ∧ (ao = none → cap = 0) ∧
    ((l = [] ∧ bs = []) ∨ ∃ (g : Nat) (e : TypeId) (cur : Array Value) (bss : List (List Nat)), ao = some ⟨g, 0, none⟩ ∧ w.heap[g]? = some (.cells cur e (0, 0)) ∧ cur.size = cap * S.size ∧ bss.length = l.length ∧ bs = g :: bss.flatten ∧
      ∀ k x b, l[k]? = some x → bss[k]? = some b → S.own b w ((cur.toList.drop (k * S.size)).take S.size) x)

theorem heap_lt {w : World} {k : Nat} {o : Obj} (h : w.heap[k]? = some o) : k < w.heap.size := (Array.getElem?_eq_some_iff.1 h).1

theorem slOwn_rd {S : Ty α} {bs : List Nat} {w : World} {cs : List Value} {l : List α} (h : slOwn S bs w cs l) : slRd S (fun k => k ∈ bs) w cs l := by
  obtain ⟨ao, cap, rfl, h1, h2, h3, h4⟩ := h
  refine ⟨ao, cap, rfl, h1, h2, h3, fun hl => ?_⟩
  rcases h4 with ⟨rfl, _⟩ | ⟨g, e, cur, bss, rfl, hg, hs, hb, rfl, hx⟩
  · simp at hl
  refine ⟨g, 0, rfl, List.mem_cons_self, heap_lt hg, fun k x hk => ?_⟩
  have hkl : k < l.length := (List.getElem?_eq_some_iff.1 hk).1
  have hbk : bss[k]? = some (bss[k]'(by omega)) := List.getElem?_eq_getElem (by omega)
  have ho := hx k x _ hk hbk
  refine ⟨_, S.keep (S.own_rd ho) (fun j hj hlt => ⟨List.mem_cons_of_mem _ (List.mem_flatten.2 ⟨_, List.getElem_mem _, hj⟩), rfl, hlt⟩), fun j v hv => ?_⟩
  rw [cell_of_row w g _ cur e (0, 0) hg]
  rw [List.getElem?_take] at hv
  split at hv
  · rw [List.getElem?_drop] at hv
    simpa using hv
  · cases hv

theorem cell_heap {w w' : World} {b o : Nat} {v : Value} (h : w.cell? ⟨b, o, none⟩ = some v) (hk : w'.heap[b]? = w.heap[b]?) : w'.cell? ⟨b, o, none⟩ = some v :=
  (World.cell?_of_block (w := w) (a := ⟨b, o, none⟩) hk).trans h

theorem Elems.keep {S : Ty α} {p q : Nat → Prop} {w w' : World} {b off : Nat} {l : List α} (h : Elems S p w b off l) (hb : w'.heap[b]? = w.heap[b]?)
    (hk : ∀ k, p k → k < w.heap.size → q k ∧ w'.heap[k]? = w.heap[k]? ∧ k < w'.heap.size) : Elems S q w' b off l := fun k x hx => by
  obtain ⟨c, hc, hj⟩ := h k x hx
  exact ⟨c, S.keep hc hk, fun j v hv => cell_heap (hj j v hv) hb⟩

def tSlice (S : Ty α) : Ty (List α) where
  size := 1
  rd p w cs l := slRd S p w cs l
  own bs w cs l := slOwn S bs w cs l
  len := by rintro _ _ _ _ ⟨ao, cap, rfl, _⟩; rfl
  one := by rintro _ _ _ _ ⟨ao, cap, rfl, _⟩ u hu; simp at hu; subst hu; rfl
  keep := by
    rintro p q w w' _ _ ⟨ao, cap, rfl, h1, h2, h3, h4⟩ hk
    refine ⟨ao, cap, rfl, h1, h2, h3, fun hl => ?_⟩
    obtain ⟨b, off, rfl, hp, hlt, he⟩ := h4 hl
    obtain ⟨a1, a2, a3⟩ := hk b hp hlt
    exact ⟨b, off, rfl, a1, a3, he.keep a2 hk⟩
  own_rd := slOwn_rd
  own_keep := by
    rintro bs w w' _ _ ⟨ao, cap, rfl, h1, h2, h3, h4⟩ hk
    refine ⟨ao, cap, rfl, h1, h2, h3, ?_⟩
    rcases h4 with h4 | ⟨g, e, cur, bss, rfl, hg, hs, hb, rfl, hx⟩
    · exact .inl h4
    refine .inr ⟨g, e, cur, bss, rfl, (hk g List.mem_cons_self).trans hg, hs, hb, rfl, fun k x b hkx hkb => S.own_keep (hx k x b hkx hkb) (fun j hj => hk j (List.mem_cons_of_mem _ (List.mem_flatten.2 ⟨b, List.mem_of_getElem? hkb, hj⟩)))⟩
  own_lt := by
    rintro bs w _ l ⟨ao, cap, rfl, h1, h2, h3, h4⟩ k hk
    rcases h4 with ⟨_, rfl⟩ | ⟨g, e, cur, bss, rfl, hg, hs, hb, rfl, hx⟩
    · cases hk
    rcases List.mem_cons.1 hk with rfl | hk
    · exact heap_lt hg
    obtain ⟨b, hb1, hb2⟩ := List.mem_flatten.1 hk
    obtain ⟨i, hi, rfl⟩ := List.getElem_of_mem hb1
    have hil : i < l.length := by omega
    exact S.own_lt (hx i _ _ (List.getElem?_eq_getElem hil) (List.getElem?_eq_getElem hi)) k hb2

/-- Reads as x, whatever blocks it passes through. -/
def Ty.at (S : Ty α) (w : World) (cs : List Value) (x : α) : Prop := S.rd (fun _ => True) w cs x
theorem Ty.rd_at {S : Ty α} {p : Nat → Prop} {w : World} {cs : List Value} {x : α} (h : S.rd p w cs x) : S.at w cs x := S.keep h (fun _ _ hl => ⟨trivial, rfl, hl⟩)
/-- In new memory: owned, each block once, all blocks from B on. -/
def Ty.fresh (S : Ty α) (B : Nat) (w : World) (cs : List Value) (x : α) : Prop := ∃ bs, S.own bs w cs x ∧ bs.Nodup ∧ ∀ b ∈ bs, B ≤ b
theorem Ty.fresh_at {S : Ty α} {B : Nat} {w : World} {cs : List Value} {x : α} (h : S.fresh B w cs x) : S.at w cs x := by
  obtain ⟨bs, h, _⟩ := h
  exact Ty.rd_at (S.own_rd h)

/-- The world has turned at most in the blocks 'bs'. -/
structure Turns (bs : List Nat) (w w' : World) : Prop where
  os : w'.os = w.os
  tape : w'.tape = w.tape
  output : w'.output = w.output
  size : w.heap.size ≤ w'.heap.size
  block : ∀ k, k < w.heap.size → k ∉ bs → w'.heap[k]? = w.heap[k]?
  drawn : True

/-- The world has at most new blocks. -/
def More (w w' : World) : Prop := Below w.heap.size w w' ∧ True
theorem More.out {w w' : World} (h : More w w') : Below w.heap.size w w' := h.1
theorem More.drawn {w w' : World} (h : More w w') : True := h.2
theorem More.of_below {w w' : World} (h : Below w.heap.size w w') : More w w' := ⟨h, trivial⟩
theorem More.os {w w' : World} (h : More w w') : w'.os = w.os := Below.os h.1
theorem More.tape {w w' : World} (h : More w w') : w'.tape = w.tape := Below.tape h.1
theorem More.output {w w' : World} (h : More w w') : w'.output = w.output := Below.output h.1
theorem More.size {w w' : World} (h : More w w') : w.heap.size ≤ w'.heap.size := Below.size h.1
theorem More.block {w w' : World} (h : More w w') : ∀ k, k < w.heap.size → w'.heap[k]? = w.heap[k]? := Below.block h.1
theorem More.refl (w : World) : More w w := ⟨Below.refl _ _, trivial⟩
theorem More.trans {a b c : World} (h : More a b) (k : More b c) : More a c := ⟨Below.trans (Below.mono h.1 (Nat.le_refl _)) (Below.mono k.1 h.size), trivial⟩
theorem More.turns {a b : World} (h : More a b) (bs : List Nat) : Turns bs a b := ⟨h.os, h.tape, h.output, h.size, fun k hk _ => h.block k hk, h.2⟩
theorem Turns.more {a b : World} (h : Turns [] a b) : More a b := ⟨⟨h.os, h.tape, h.output, h.size, fun k hk => h.block k hk (by simp)⟩, h.drawn⟩
/-- All old cells and marks read as before. -/
theorem bcell {W w1 : World} (hb : More W w1) : (∀ b o, b < W.heap.size → w1.cell? ⟨b, o, none⟩ = W.cell? ⟨b, o, none⟩) ∧ (∀ b o, b < W.heap.size → w1.frozen? ⟨b, o, none⟩ = W.frozen? ⟨b, o, none⟩) :=
  ⟨fun b o h => Below.cell hb.1 (p := ⟨b, o, none⟩) h, fun b o h => Below.frozen hb.1 (p := ⟨b, o, none⟩) h⟩
theorem Turns.refl (bs : List Nat) (w : World) : Turns bs w w := ⟨rfl, rfl, rfl, Nat.le_refl _, fun _ _ _ => rfl, trivial⟩
theorem Turns.trans {bs : List Nat} {a b c : World} (h : Turns bs a b) (k : Turns bs b c) : Turns bs a c :=
  ⟨k.os.trans h.os, k.tape.trans h.tape, k.output.trans h.output, Nat.le_trans h.size k.size, fun i hi hn => (k.block i (Nat.lt_of_lt_of_le hi h.size) hn).trans (h.block i hi hn), trivial⟩
theorem Turns.mono {bs cs : List Nat} {a b : World} (h : Turns bs a b) (hs : ∀ k ∈ bs, k ∈ cs) : Turns cs a b := ⟨h.os, h.tape, h.output, h.size, fun k hk hn => h.block k hk (fun e => hn (hs k e)), h.drawn⟩
theorem Turns.below {bs : List Nat} {B : Nat} {a b : World} (h : Turns bs a b) (hB : B ≤ a.heap.size) (hs : ∀ k ∈ bs, B ≤ k) : Below B a b :=
  ⟨h.os, h.tape, h.output, h.size, fun k hk => h.block k (by omega) (fun e => by have := hs k e; omega)⟩
theorem Turns.via {bs : List Nat} {a b c : World} (h : More b c) (k : Turns bs a b) : Turns bs a c := k.trans (h.turns bs)
theorem Turns.drew {bs : List Nat} {a w : World} (h : Turns bs a w) : Turns bs a w.drew := ⟨h.os, h.tape, h.output, h.size, h.block, trivial⟩
theorem Turns.drewN {bs : List Nat} {a w : World} (h : Turns bs a w) {n : Nat} : Turns bs a (w.drewN n) := ⟨h.os, h.tape, h.output, h.size, h.block, trivial⟩
theorem Turns.alloc {bs : List Nat} {a w : World} (h : Turns bs a w) (o : Obj) : Turns bs a (w.alloc o) :=
  h.trans ⟨rfl, rfl, rfl, by simp, fun k hk _ => Below.heap_alloc _ _ _ hk, trivial⟩
theorem Turns.setCell {bs : List Nat} {a w : World} (h : Turns bs a w) {p : Addr} (hp : p.block ∈ bs ∨ a.heap.size ≤ p.block) (u : Value) : Turns bs a (w.setCell p u) := by
  refine ⟨h.os, h.tape, h.output, by simpa [World.setCell] using h.size, fun k hk hn => ?_, trivial⟩
  rw [Below.heap_setCell _ _ _ _ ?_]
  · exact h.block k hk hn
  · rintro rfl
    rcases hp with hp | hp
    · exact hn hp
    · omega
theorem Turns.setCellR {a w : World} (h : Turns [] a w) {p : Addr} (hp : a.heap.size ≤ p.block) (u : Value) : Turns [] a (w.setCell p u) := h.setCell (.inr hp) u
theorem Turns.grown {bs : List Nat} {a w w' : World} {row : Option Nat} (h : Turns bs a w) (hg : GrownD w w' row) (hr : ∀ k, row = some k → k ∈ bs ∨ a.heap.size ≤ k) : Turns bs a w' := by
  refine ⟨hg.os.trans h.os, hg.tape.trans h.tape, hg.output.trans h.output, Nat.le_trans h.size hg.size, fun k hk hn => ?_, trivial⟩
  rw [hg.block k (Nat.lt_of_lt_of_le hk h.size) ?_]
  · exact h.block k hk hn
  · intro e
    rcases hr k e.symm with h1 | h1
    · exact hn h1
    · omega

theorem More.turn {a b c : World} {bs : List Nat} (h : More a b) (t : Turns bs b c) (hb : ∀ k ∈ bs, a.heap.size ≤ k) : More a c := ⟨Below.trans h.1 (t.below h.size hb), trivial⟩
theorem Ty.at_more {S : Ty α} {w w' : World} {cs : List Value} {x : α} (h : S.at w cs x) (hb : More w w') : S.at w' cs x :=
  S.keep h (fun k _ hl => ⟨trivial, hb.block k hl, Nat.lt_of_lt_of_le hl hb.size⟩)
/-- .. in every world that has kept what lies below B, B at least the old size. -/
theorem Ty.at_below {S : Ty α} {B : Nat} {w w' : World} {cs : List Value} {x : α} (h : S.at w cs x) (hb : Below B w w') (hB : w.heap.size ≤ B) : S.at w' cs x :=
  S.keep h (fun k _ hl => ⟨trivial, (Below.mono hb hB).block k hl, Nat.lt_of_lt_of_le hl (Below.mono hb hB).size⟩)
theorem Ty.at_turns {S : Ty α} {bs : List Nat} {w0 w w' : World} {cs : List Value} {x : α} (h : S.at w0 cs x) (h0 : More w0 w) (hb : Turns bs w w') (hB : ∀ k ∈ bs, w0.heap.size ≤ k) : S.at w' cs x :=
  Ty.at_below h (Below.trans h0.1 (hb.below h0.size hB)) (Nat.le_refl _)
theorem Ty.own_more {S : Ty α} {bs : List Nat} {w w' : World} {cs : List Value} {x : α} (h : S.own bs w cs x) (hb : More w w') : S.own bs w' cs x :=
  S.own_keep h (fun k hk => hb.block k (S.own_lt h k hk))
theorem Ty.own_turns {S : Ty α} {bs ts : List Nat} {w w' : World} {cs : List Value} {x : α} (h : S.own bs w cs x) (hb : Turns ts w w') (hd : ∀ k ∈ bs, k ∉ ts) : S.own bs w' cs x :=
  S.own_keep h (fun k hk => hb.block k (S.own_lt h k hk) (hd k hk))
theorem Ty.fresh_more {S : Ty α} {B : Nat} {w w' : World} {cs : List Value} {x : α} (h : S.fresh B w cs x) (hb : More w w') : S.fresh B w' cs x := by
  obtain ⟨bs, h1, h2, h3⟩ := h
  exact ⟨bs, Ty.own_more h1 hb, h2, h3⟩
theorem Ty.fresh_mono {S : Ty α} {B B' : Nat} {w : World} {cs : List Value} {x : α} (h : S.fresh B w cs x) (hb : B' ≤ B) : S.fresh B' w cs x := by
  obtain ⟨bs, h1, h2, h3⟩ := h
  exact ⟨bs, h1, h2, fun b hb' => Nat.le_trans hb (h3 b hb')⟩
/-- Two things made one after the other. -/
theorem Ty.fresh_pair {A : Ty α} {C : Ty β} {B : Nat} {w1 w2 : World} {c1 c2 : List Value} {x : α} {y : β} (h1 : A.fresh B w1 c1 x) (hb : More w1 w2) (h2 : C.fresh w1.heap.size w2 c2 y) (hB : B ≤ w1.heap.size) :
    (tProd A C).fresh B w2 (c1 ++ c2) (x, y) := by
  obtain ⟨b1, a1, a2, a3⟩ := h1
  obtain ⟨b2, d1, d2, d3⟩ := h2
  refine ⟨b1 ++ b2, ⟨b1, b2, c1, c2, rfl, rfl, Ty.own_more a1 hb, d1⟩, ?_, ?_⟩
  · rw [List.nodup_append]
    refine ⟨a2, d2, fun k hk k' hk' e => ?_⟩
    subst e
    have := A.own_lt a1 k hk
    have := d3 k hk'
    omega
  · intro b hb'
    rcases List.mem_append.1 hb' with h | h
    · exact a3 b h
    · have := d3 b h; omega

theorem int_at {w : World} {n : Int} (h : In64 n) : tInt.at w [.int .i64 n] n := ⟨rfl, h⟩
theorem int_fresh {B : Nat} {w : World} {n : Int} (h : In64 n) : tInt.fresh B w [.int .i64 n] n := ⟨[], ⟨rfl, rfl, h⟩, by simp, by simp⟩
theorem bool_at {w : World} {b : Bool} : tBool.at w [.bool b] b := rfl
theorem bool_fresh {B : Nat} {w : World} {b : Bool} : tBool.fresh B w [.bool b] b := ⟨[], ⟨rfl, rfl⟩, by simp, by simp⟩
theorem nil_fresh {S : Ty α} {B : Nat} {w : World} : (tSlice S).fresh B w [.slice none 0 0] [] := ⟨[], ⟨none, 0, rfl, by simp, by simp, fun _ => rfl, .inl ⟨rfl, rfl⟩⟩, by simp, by simp⟩
theorem empty_fresh {S : Ty α} {B : Nat} {w : World} {a : Addr} {cap : Nat} (h : cap ≤ maxLen) : (tSlice S).fresh B w [.slice (some a) 0 cap] [] := ⟨[], ⟨some a, cap, rfl, by simp, h, (fun e => by cases e), .inl ⟨rfl, rfl⟩⟩, by simp, by simp⟩

theorem ret_int {k : IntKind} {a b : Int} (h : a = b) : Ending.returned (.int k a) = .returned (.int k b) := by rw [h]
theorem ret_bool {a b : Bool} (h : a = b) : Ending.returned (.bool a) = .returned (.bool b) := by rw [h]

/-! ### Kinds without memory behind them -/
/-- The cells of a value of this kind are a function of it. -/
structure Flat (S : Ty α) where
  enc : α → List Value
  ok : α → Prop
  rd_iff : ∀ p w cs x, S.rd p w cs x ↔ cs = enc x ∧ ok x
  own_iff : ∀ bs w cs x, S.own bs w cs x ↔ bs = [] ∧ cs = enc x ∧ ok x

def fInt : Flat tInt where
  enc n := [.int .i64 n]
  ok n := In64 n
  rd_iff _ _ _ _ := Iff.rfl
  own_iff _ _ _ _ := Iff.rfl

def fBool : Flat tBool where
  enc n := [.bool n]
  ok _ := True
  rd_iff _ _ _ _ := ⟨fun h => ⟨h, trivial⟩, fun h => h.1⟩
  own_iff _ _ _ _ := ⟨fun h => ⟨h.1, h.2, trivial⟩, fun h => ⟨h.1, h.2.1⟩⟩

def fProd {A : Ty α} {B : Ty β} (F : Flat A) (G : Flat B) : Flat (tProd A B) where
  enc x := F.enc x.1 ++ G.enc x.2
  ok x := F.ok x.1 ∧ G.ok x.2
  rd_iff p w cs x := by
    constructor
    · rintro ⟨c1, c2, rfl, h1, h2⟩
      obtain ⟨rfl, k1⟩ := (F.rd_iff _ _ _ _).1 h1
      obtain ⟨rfl, k2⟩ := (G.rd_iff _ _ _ _).1 h2
      exact ⟨rfl, k1, k2⟩
    · rintro ⟨rfl, k1, k2⟩
      exact ⟨_, _, rfl, (F.rd_iff _ _ _ _).2 ⟨rfl, k1⟩, (G.rd_iff _ _ _ _).2 ⟨rfl, k2⟩⟩
  own_iff bs w cs x := by
    constructor
    · rintro ⟨b1, b2, c1, c2, rfl, rfl, h1, h2⟩
      obtain ⟨rfl, rfl, k1⟩ := (F.own_iff _ _ _ _).1 h1
      obtain ⟨rfl, rfl, k2⟩ := (G.own_iff _ _ _ _).1 h2
      exact ⟨rfl, rfl, k1, k2⟩
    · rintro ⟨rfl, rfl, k1, k2⟩
      exact ⟨[], [], _, _, rfl, rfl, (F.own_iff _ _ _ _).2 ⟨rfl, rfl, k1⟩, (G.own_iff _ _ _ _).2 ⟨rfl, rfl, k2⟩⟩

theorem Flat.len {S : Ty α} (F : Flat S) {x : α} (h : F.ok x) : (F.enc x).length = S.size :=
  S.len (p := fun _ => True) (w := default) ((F.rd_iff _ _ _ _).2 ⟨rfl, h⟩)

theorem flatMap_chunk {f : α → List Value} {s : Nat} : ∀ (l : List α), (∀ x ∈ l, (f x).length = s) → ∀ k x, l[k]? = some x → ((l.flatMap f).drop (k * s)).take s = f x := by
  intro l
  induction l with
  | nil => intro _ k x h; simp at h
  | cons y ys ih =>
    intro hl k x hk
    have hy : (f y).length = s := hl y (by simp)
    cases k with
    | zero =>
      simp at hk
      subst hk
      simp [hy]
    | succ k =>
      simp at hk
      have := ih (fun z hz => hl z (by simp [hz])) k x hk
      rw [List.flatMap_cons, Nat.succ_mul, Nat.add_comm, ← List.drop_drop, List.drop_append_of_le_length (Nat.le_of_eq hy.symm), List.drop_of_length_le (Nat.le_of_eq hy), List.nil_append]
      exact this

theorem length_flatMap_chunk {f : α → List Value} {s : Nat} (l : List α) (h : ∀ x ∈ l, (f x).length = s) : (l.flatMap f).length = l.length * s := by
  induction l with
  | nil => simp
  | cons y ys ih => rw [List.flatMap_cons, List.length_append, h y (by simp), ih (fun z hz => h z (by simp [hz])), List.length_cons, Nat.succ_mul, Nat.add_comm]

/-- An owned row of flat elements is a list in new memory. -/
theorem fresh_of_row {S : Ty α} (F : Flat S) {w : World} {B : Nat} {e : TypeId} {v : Value} {l : List α} (h : w.ownsRow B e S.size v l.length (l.flatMap F.enc)) (hok : ∀ x ∈ l, F.ok x) :
    (tSlice S).fresh B w [v] l := by
  rcases h.2 with ⟨rfl, h0⟩ | ⟨g, cap, cur, rfl, hg, hh, hn, hc, hs, ht⟩
  · have : l = [] := List.eq_nil_of_length_eq_zero h0
    subst this
    exact nil_fresh
  · refine ⟨g :: (List.replicate l.length []).flatten, ⟨some ⟨g, 0, none⟩, cap, rfl, hn, hc, (fun e => by cases e), .inr ⟨g, e, cur, List.replicate l.length [], rfl, hh, hs, by simp, rfl, ?_⟩⟩, by simp, by simp [hg]⟩
    intro k x b hk hb
    have hkl : k < l.length := (List.getElem?_eq_some_iff.1 hk).1
    have hb' : b = [] := by
      rw [List.getElem?_replicate] at hb
      simp [hkl] at hb
      exact hb.symm ▸ rfl
    subst hb'
    refine (F.own_iff _ _ _ _).2 ⟨rfl, ?_, hok x (List.mem_of_getElem? hk)⟩
    have h1 := flatMap_chunk (f := F.enc) (s := S.size) l (fun y hy => F.len (hok y hy)) k x hk
    rw [← h1, ← ht, List.drop_take, List.take_take]
    congr 1
    have : (k + 1) * S.size ≤ l.length * S.size := Nat.mul_le_mul_right _ hkl
    rw [Nat.succ_mul] at this
    omega

/-- Element k of a list of flat elements: its cells. -/
theorem slRd_at {S : Ty α} {p : Nat → Prop} {w : World} {v : Value} {l : List α} (h : (tSlice S).rd p w [v] l) :
    ∃ ao cap, v = .slice ao l.length cap ∧ l.length ≤ cap ∧ cap ≤ maxLen ∧ (ao = none → cap = 0) ∧ (0 < l.length → ∃ b off, ao = some ⟨b, off, none⟩ ∧ p b ∧ b < w.heap.size ∧ Elems S p w b off l) := by
  obtain ⟨ao, cap, h0, h1⟩ := h
  simp at h0
  exact ⟨ao, cap, h0, h1⟩

theorem Elems.flat {S : Ty α} (F : Flat S) {p : Nat → Prop} {w : World} {b off : Nat} {l : List α} (h : Elems S p w b off l) {k : Nat} {x : α} (hk : l[k]? = some x) :
    F.ok x ∧ ∀ j v, (F.enc x)[j]? = some v → w.cell? ⟨b, off + k * S.size + j, none⟩ = some v := by
  obtain ⟨c, hc, hj⟩ := h k x hk
  obtain ⟨rfl, ho⟩ := (F.rd_iff _ _ _ _).1 hc
  exact ⟨ho, hj⟩

abbrev QV := Int × Int
def tVec : Ty QV := tProd tInt tInt
def fVec : Flat tVec := fProd fInt fInt
abbrev tInts := tSlice tInt
abbrev tVecs := tSlice tVec
abbrev QR := (Bool × List Int) × List Int
abbrev tBig : Ty (Bool × List Int) := tProd tBool tInts
abbrev tRat : Ty QR := tProd tBig tInts
abbrev QP := QR × QR
abbrev tPoint : Ty QP := tProd tRat tRat

/-! ### The elements, one by one -/
theorem sl_len {S : Ty α} {w : World} {v : Value} {l : List α} (h : (tSlice S).at w [v] l) : ∃ ao cap, v = .slice ao l.length cap := by
  obtain ⟨ao, cap, h1, _⟩ := slRd_at h
  exact ⟨ao, cap, h1⟩

theorem sl_len63 {S : Ty α} {w : World} {v : Value} {l : List α} (h : (tSlice S).at w [v] l) : ∃ ao cap, v = .slice ao l.length cap ∧ l.length ≤ 9223372036854775807 := by
  obtain ⟨ao, cap, h1, h2, h3, _⟩ := slRd_at h
  exact ⟨ao, cap, h1, by unfold maxLen at h3; omega⟩

/-- Element k: its cells, at the slice's address. -/
theorem sl_el {S : Ty α} {w : World} {ao : Option Addr} {n cap : Nat} {l : List α} (h : (tSlice S).at w [.slice ao n cap] l) {k : Nat} {x : α} (hk : l[k]? = some x) :
    ∃ b off c, ao = some ⟨b, off, none⟩ ∧ b < w.heap.size ∧ S.at w c x ∧ ∀ j v, c[j]? = some v → w.cell? ⟨b, off + k * S.size + j, none⟩ = some v := by
  obtain ⟨ao', cap', h0, _, _, _, h4⟩ := slRd_at h
  simp at h0
  obtain ⟨rfl, rfl, rfl⟩ := h0
  obtain ⟨b, off, rfl, _, hb, he⟩ := h4 (by have := (List.getElem?_eq_some_iff.1 hk).1; omega)
  obtain ⟨c, h5, h6⟩ := he k x hk
  exact ⟨b, off, c, rfl, hb, h5, h6⟩

theorem flat_at {S : Ty α} (F : Flat S) {w : World} {c : List Value} {x : α} (h : S.at w c x) : c = F.enc x ∧ F.ok x := (F.rd_iff _ _ _ _).1 h

theorem int_el {w : World} {ao : Option Addr} {n cap : Nat} {l : List Int} (h : tInts.at w [.slice ao n cap] l) {k : Nat} (hk : k < l.length) :
    ∃ b off x, ao = some ⟨b, off, none⟩ ∧ b < w.heap.size ∧ l[k]? = some x ∧ In64 x ∧ w.cell? ⟨b, off + k, none⟩ = some (.int .i64 x) := by
  obtain ⟨x, hx⟩ : ∃ x, l[k]? = some x := ⟨_, List.getElem?_eq_getElem hk⟩
  obtain ⟨b, off, c, rfl, hb, hc, hv⟩ := sl_el h hx
  obtain ⟨rfl, ho⟩ := flat_at fInt hc
  have h0 := hv 0 _ rfl
  refine ⟨b, off, x, rfl, hb, hx, ho, ?_⟩
  rwa [show off + k * tInt.size + 0 = off + k from by show off + k * 1 + 0 = _; omega] at h0

theorem vec_el {w : World} {ao : Option Addr} {n cap : Nat} {l : List QV} (h : tVecs.at w [.slice ao n cap] l) {k : Nat} (hk : k < l.length) :
    ∃ b off x y, ao = some ⟨b, off, none⟩ ∧ b < w.heap.size ∧ l[k]? = some (x, y) ∧ In64 x ∧ In64 y ∧ w.cell? ⟨b, off + k * 2, none⟩ = some (.int .i64 x) ∧ w.cell? ⟨b, off + k * 2 + 1, none⟩ = some (.int .i64 y) := by
  obtain ⟨⟨x, y⟩, hx⟩ : ∃ x, l[k]? = some x := ⟨_, List.getElem?_eq_getElem hk⟩
  obtain ⟨b, off, c, rfl, hb, hc, hv⟩ := sl_el h hx
  obtain ⟨rfl, ho1, ho2⟩ := flat_at fVec hc
  have h0 := hv 0 _ rfl
  have h1 := hv 1 _ rfl
  exact ⟨b, off, x, y, rfl, hb, hx, ho1, ho2, h0, h1⟩

/-- The first index at which p says yes, -1 for none. -/
def idxI (p : α → Bool) (l : List α) : Int := if l.any p then (l.findIdx p : Nat) else -1
theorem idxI_found {p : α → Bool} {l : List α} {k : Nat} {x : α} (h1 : ∀ (i : Nat) y, i < k → l[i]? = some y → p y = false) (h2 : l[k]? = some x) (h3 : p x = true) : idxI p l = k := by
  have hk := (List.getElem?_eq_some_iff.1 h2).1
  have hany : l.any p = true := List.any_eq_true.2 ⟨x, List.mem_of_getElem? h2, h3⟩
  unfold idxI
  rw [if_pos hany]
  have : l.findIdx p = k := by
    rw [List.findIdx_eq hk]
    refine ⟨by rw [(List.getElem?_eq_some_iff.1 h2).2]; exact h3, fun j hj => ?_⟩
    exact h1 j _ hj (List.getElem?_eq_getElem (by omega))
  rw [this]
theorem idxI_none {p : α → Bool} {l : List α} (h1 : ∀ (i : Nat) y, l[i]? = some y → p y = false) : idxI p l = -1 := by
  have : l.any p = false := by
    rw [List.any_eq_false]
    intro x hx
    obtain ⟨i, hi⟩ := List.mem_iff_getElem?.1 hx
    simp [h1 i x hi]
  unfold idxI
  simp [this]
theorem idxI_nonneg {p : α → Bool} {l : List α} : decide (0 ≤ idxI p l) = l.any p := by
  unfold idxI
  cases h : l.any p <;> simp

theorem arr_of {cs : Array Value} {l : List Value} (h : cs.toList = l) : cs = l.toArray := by
  subst h
  rfl
theorem vec_arr {w : World} {cs : Array Value} {x : QV} (h : tVec.at w cs.toList x) : cs = #[.int .i64 x.1, .int .i64 x.2] ∧ In64 x.1 ∧ In64 x.2 := by
  obtain ⟨h1, h2⟩ := flat_at fVec h
  exact ⟨arr_of h1, h2⟩

/-! ### Boxes: the blocks in which a call lays its struct parameters -/
theorem More.un {X w' : World} {o : Obj} (h : More (X.alloc o) w') : More X w' := Turns.more (((Turns.refl [] X).alloc o).trans (h.turns []))
theorem box_new {X w' : World} {C : Array Value} {t : TypeId} {N : Nat} (hN : X.heap.size = N) (h : More (X.alloc (.cells C t)) w') (j : Nat) : w'.cell? ⟨N, j, none⟩ = C[j]? := by
  subst hN
  rw [(bcell h).1 _ _ (by simp), cell_of_row _ X.heap.size j C t (0, 0) (heap_alloc_new X _)]
theorem box_free {X w' : World} {C : Array Value} {t : TypeId} {N : Nat} (hN : X.heap.size = N) (h : More (X.alloc (.cells C t)) w') (j : Nat) : w'.frozen? ⟨N, j, none⟩ = false := by
  subst hN
  rw [(bcell h).2 _ _ (by simp), frozen_of_row _ X.heap.size j C t (heap_alloc_new X _)]

theorem box_keep {w0 w1 : World} (h : More w0 w1) {b o : Nat} {v : Value} (hb : b < w0.heap.size) (hc : w0.cell? ⟨b, o, none⟩ = some v) : w1.cell? ⟨b, o, none⟩ = some v := ((bcell h).1 b o hb).trans hc
theorem free_keep {w0 w1 : World} (h : More w0 w1) {b o : Nat} {v : Bool} (hb : b < w0.heap.size) (hc : w0.frozen? ⟨b, o, none⟩ = v) : w1.frozen? ⟨b, o, none⟩ = v := ((bcell h).2 b o hb).trans hc

/-- A world has at most new blocks since another: along what was made and what the contracts say. -/
theorem mC {a b : World} (h : Turns [] a b := by with_reducible repeat (first | exact Turns.refl _ _ | apply Turns.drew | apply Turns.drewN | apply Turns.alloc | refine Turns.via (by assumption) ?_)) : More a b := Turns.more h
theorem mC2 {a b : World} (h : Turns [] a b := by with_reducible repeat (first | exact Turns.refl _ _ | apply Turns.drew | apply Turns.drewN | apply Turns.alloc | refine Turns.setCellR ?_ (by simp <;> omega) _ | refine Turns.via (by assumption) ?_)) : More a b := Turns.more h
theorem tC {bs : List Nat} {a b : World} (h : Turns bs a b := by with_reducible repeat (first | exact Turns.refl _ _ | apply Turns.drew | apply Turns.drewN | apply Turns.alloc | refine Turns.setCell ?_ (by first | (left; simp; done) | (right; simp <;> omega)) _ | refine Turns.via (by assumption) ?_)) : Turns bs a b := h
end Go.Proofs.YtnbefpfijaimjaaGreatDoor
/- Lists that a call builds: element after element by append, or element by element into a row that was made. It speaks of no program. -/
namespace Go.Proofs.YtnbefpfijaimjaaGreatDoor
open Go.RowKit
variable {α β : Type}

theorem ownsRow_more {w w' : World} {B : Nat} {e : TypeId} {s n : Nat} {v : Value} {xs : List Value} (h : w.ownsRow B e s v n xs) (hm : More w w') : w'.ownsRow B e s v n xs := by
  refine ⟨h.1, ?_⟩
  rcases h.2 with h2 | ⟨g, cap, cur, hv, hg, hh, r⟩
  · exact .inl h2
  · exact .inr ⟨g, cap, cur, hv, hg, (hm.block g (heap_lt hh)).trans hh, r⟩
theorem ownsRow_turns {w w' : World} {bs : List Nat} {B : Nat} {e : TypeId} {s n : Nat} {v : Value} {xs : List Value} (h : w.ownsRow B e s v n xs) (hm : Turns bs w w') (hd : ∀ g, v.ownBlock = some g → g ∉ bs) : w'.ownsRow B e s v n xs := by
  refine ⟨h.1, ?_⟩
  rcases h.2 with h2 | ⟨g, cap, cur, hv, hg, hh, r⟩
  · exact .inl h2
  · exact .inr ⟨g, cap, cur, hv, hg, (hm.block g (heap_lt hh) (hd g (by rw [hv]; rfl))).trans hh, r⟩
theorem ownsRow_lt {w : World} {B : Nat} {e : TypeId} {s n : Nat} {v : Value} {xs : List Value} (h : w.ownsRow B e s v n xs) {g : Nat} (hg : v.ownBlock = some g) : B ≤ g ∧ g < w.heap.size := h.lt g hg

/-- Where the new row of an append lies. -/
theorem app_block {P : Program} (w : World) (base : Nat) (t ty e : TypeId) (i : TypeInfo) (z : Value) (size bytes : Nat) (ht : P.underlying t = some (.slice e)) (hi : P.info? e = some i) (hz : i.zero = some z)
    (hsize : i.size = size) (hby : i.bytes = bytes) (hzs : z.cells.size = size) (hsz : 0 < size)
    (v : Value) (n : Nat) (xs : List Value) (hown : w.ownsRow base e size v n xs)
    (a : Addr) (m c : Nat) (news : List Value) (hl : news.length = m * size) (hnews : ∀ j u, news[j]? = some u → w.cell? (a.add j) = some u) (h1 : ∀ u ∈ news, u.oneCell' = true)
    (h63 : n + m ≤ maxLen) (hbytes : (n + m) * bytes ≤ 140737488355328) (hbase : base ≤ w.heap.size) (hm : 0 < m) :
    ∃ v' w', (Builtin.append_ #[t, t] ty #[v, .slice (some a) m c]).run P w = .ok v' w' ∧ w'.ownsRow base e size v' (n + m) (xs ++ news) ∧ GrownD w w' v.ownBlock ∧
      (v'.ownBlock = v.ownBlock ∨ v'.ownBlock = some w.heap.size) := by
  obtain ⟨v', w', hr, r1, r2, _⟩ := run_append_own (P := P) w base t ty e i z size bytes ht hi hz hsize hby hzs hsz v n xs hown a m c news hl hnews h1 h63 hbytes hbase
  refine ⟨v', w', hr, r1, r2, ?_⟩
  subst hsize
  subst hby
  have h63' : ((n + m : Nat) : Int) ≤ 9223372036854775807 := by unfold maxLen at h63; omega
  rcases hown.2 with ⟨rfl, rfl⟩ | ⟨g, cap, cur, rfl, hbg, hg, hnc, hcm, hcs, htake⟩
  · have hr2 := run_append_nil (P := P) w t ty e i z ht hi hz a m c news hl hnews (by omega) (by omega) (by have hb := hbytes; simp only [Nat.zero_add] at hb; omega)
    rw [hr2] at hr
    cases hr
    exact .inr rfl
  · by_cases hroom : n + m ≤ cap
    · have hfit : n * i.size + news.length ≤ cur.size := by rw [hl, hcs, ← Nat.add_mul]; exact Nat.mul_le_mul_right _ hroom
      have hr2 := run_append_room (P := P) w t ty e i ht hi g n cap cur hg a m c news hl hnews h1 hroom hfit
      rw [hr2] at hr
      cases hr
      exact .inl rfl
    · have holds : ∀ j u, xs[j]? = some u → w.cell? ((⟨g, 0, none⟩ : Addr).add j) = some u := hown.cells (g := g) rfl
      have hr2 := run_append_grow (P := P) w t ty e i z ht hi hz ⟨g, 0, none⟩ n cap xs hown.1 holds a m c news hl hnews (by omega) h63' (growslice_fits (by omega) hbytes)
      rw [hr2] at hr
      cases hr
      exact .inr rfl

/-- One element, which lies in a new block, is appended to a row of the call's own. -/
theorem wpList_push {P : Program} {ops : Array Oper} {rest : List Oper} {o : Oper} {a : Act} {Q : Exit → Act → World → Prop} (w : World) (C : Array Value) (te : TypeId) (hgd : o.guard = none) (s x : Operand) (t : TypeId)
    (ho : o.op = .call { callee := .builtin .append, args := #[s, x], argTypes := #[t, t] })
    (B : Nat) (e : TypeId) (i : TypeInfo) (z : Value) (size bytes : Nat) (ht : P.underlying t = some (.slice e)) (hi : P.info? e = some i) (hz : i.zero = some z)
    (hsize : i.size = size) (hby : i.bytes = bytes) (hzs : z.cells.size = size) (hsz : 0 < size)
    (v : Value) (n : Nat) (xs : List Value) (hs : a.eval s = v) (hown : w.ownsRow B e size v n xs)
    (hx : a.eval x = .slice (some ⟨w.heap.size, 0, none⟩) 1 1) (hC : C.size = size) (h1 : ∀ u ∈ C.toList, u.oneCell' = true) (hn : (n + 1) * bytes ≤ 140737488355328) (hm : n + 1 ≤ maxLen) (hB : B ≤ w.heap.size)
    (h : ∀ v' w', w'.ownsRow B e size v' (n + 1) (xs ++ C.toList) → Turns v.ownBlock.toList w w' → (v'.ownBlock = v.ownBlock ∨ v'.ownBlock = some (w.heap.size + 1)) → wpList P ops Q rest (a.put o.dst v') w') :
    wpList P ops Q (o :: rest) a (w.alloc (.cells C te)) := by
  refine wpList_plain hgd fun K hK => ?_
  have hnews : ∀ j u, C.toList[j]? = some u → (w.alloc (.cells C te)).cell? ((⟨w.heap.size, 0, none⟩ : Addr).add j) = some u := by
    intro j u hu
    rw [Addr.add_lit, Nat.zero_add, cell_of_row _ w.heap.size j C te (0, 0) (heap_alloc_new w _)]
    simpa using hu
  obtain ⟨v', w', hr, r1, r2, r3⟩ := app_block (P := P) (w.alloc (.cells C te)) B t o.type e i z size bytes ht hi hz hsize hby hzs hsz v n xs (hown.alloc _) ⟨w.heap.size, 0, none⟩ 1 1 C.toList (by simpa using hC) hnews h1 hm hn (by simp; omega) (by decide)
  unfold Oper.wp execOp
  simp only [ho, resolve, invoke, builtin, Sem.run_bind, Sem.run_pure, Result.andThen_ok, List.map_toArray, List.map_cons, List.map_nil, hs, hx, hr]
  refine hK _ _ (h v' w' r1 ?_ (by simpa using r3))
  refine Turns.trans ((Turns.refl _ w).alloc _) ⟨r2.os, r2.tape, r2.output, r2.size, fun k hk hn' => r2.block k hk (fun e => hn' ?_), r2.drawn⟩
  rw [← e]
  simp

/-- A list that is being built: each element owns its blocks. -/
def ListOwn (S : Ty α) (B : Nat) (e : TypeId) (w : World) (v : Value) (l : List α) : Prop :=
  ∃ (xs : List Value) (bss : List (List Nat)), w.ownsRow B e S.size v l.length xs ∧ bss.length = l.length ∧ bss.flatten.Nodup ∧ (∀ b ∈ bss.flatten, B ≤ b ∧ some b ≠ v.ownBlock) ∧
    ∀ i x b, l[i]? = some x → bss[i]? = some b → S.own b w ((xs.drop (i * S.size)).take S.size) x

theorem ListOwn.nil {S : Ty α} {B : Nat} {e : TypeId} {w : World} : ListOwn S B e w (.slice none 0 0) [] :=
  ⟨[], [], World.ownsRow_nil _ _ _ _, rfl, by simp, by simp, by simp⟩
theorem ListOwn.lit {S : Ty α} {B : Nat} {e : TypeId} {w : World} (hB : B ≤ w.heap.size) : ListOwn S B e (w.alloc (.cells #[] e)) (.slice (some ⟨w.heap.size, 0, none⟩) 0 0) [] :=
  ⟨[], [], World.ownsRow_lit (size := S.size) w #[] 0 hB (by simp) (by simp), rfl, by simp, by simp, by simp⟩
theorem ListOwn.made {S : Ty α} {B : Nat} {e : TypeId} {w : World} {v : Value} (h : w.ownsRow B e S.size v 0 []) : ListOwn S B e w v [] :=
  ⟨[], [], h, rfl, by simp, by simp, by simp⟩
theorem ListOwn.row {S : Ty α} {B : Nat} {e : TypeId} {w : World} {v : Value} {l : List α} (h : ListOwn S B e w v l) : ∃ xs, w.ownsRow B e S.size v l.length xs := by
  obtain ⟨xs, _, h, _⟩ := h
  exact ⟨xs, h⟩
theorem ListOwn.more {S : Ty α} {B : Nat} {e : TypeId} {w w' : World} {v : Value} {l : List α} (h : ListOwn S B e w v l) (hm : More w w') : ListOwn S B e w' v l := by
  obtain ⟨xs, bss, h1, h2, h3, h4, h5⟩ := h
  exact ⟨xs, bss, ownsRow_more h1 hm, h2, h3, h4, fun i x b hx hb => Ty.own_more (h5 i x b hx hb) hm⟩
theorem ListOwn.turns {S : Ty α} {B : Nat} {e : TypeId} {w w' : World} {v : Value} {l : List α} {bs : List Nat} (h : ListOwn S B e w v l) (hm : Turns bs w w') (hb : ∀ k ∈ bs, k < B) : ListOwn S B e w' v l := by
  obtain ⟨xs, bss, h1, h2, h3, h4, h5⟩ := h
  refine ⟨xs, bss, ownsRow_turns h1 hm (fun g hg hgb => ?_), h2, h3, h4, fun i x b hx hb' => Ty.own_turns (h5 i x b hx hb') hm (fun k hk hkb => ?_)⟩
  · have := (ownsRow_lt h1 hg).1
    have := hb g hgb
    omega
  · have := (h4 k (List.mem_flatten.2 ⟨b, List.mem_of_getElem? hb', hk⟩)).1
    have := hb k hkb
    omega
theorem ListOwn.lt {S : Ty α} {B : Nat} {e : TypeId} {w : World} {v : Value} {l : List α} (h : ListOwn S B e w v l) {g : Nat} (hg : v.ownBlock = some g) : B ≤ g := by
  obtain ⟨xs, h⟩ := h.row
  exact (ownsRow_lt h hg).1

theorem chunk_append {xs ys : List Value} {n s i : Nat} (hl : xs.length = n * s) (hi : i < n) : ((xs ++ ys).drop (i * s)).take s = (xs.drop (i * s)).take s := by
  have h1 : (i + 1) * s ≤ n * s := Nat.mul_le_mul_right _ hi
  rw [Nat.succ_mul] at h1
  rw [List.drop_append_of_le_length (by omega), List.take_append_of_le_length (by rw [List.length_drop]; omega)]
theorem chunk_last {xs ys : List Value} {n s : Nat} (hl : xs.length = n * s) (hy : ys.length = s) : ((xs ++ ys).drop (n * s)).take s = ys := by
  rw [List.drop_append, hl, Nat.sub_self, List.drop_of_length_le (by omega), List.nil_append, List.drop_zero, List.take_of_length_le (by omega)]

/-- One more. w0: where the list stood before the element was made. -/
theorem ListOwn.push {S : Ty α} {B : Nat} {e : TypeId} {w0 w w' : World} {v v' : Value} {l : List α} {xs : List Value} {c : List Value} {x : α} {bss : List (List Nat)}
    (hrow : w.ownsRow B e S.size v l.length xs) (h2 : bss.length = l.length) (h3 : bss.flatten.Nodup) (h4 : ∀ b ∈ bss.flatten, B ≤ b ∧ some b ≠ v.ownBlock)
    (h5 : ∀ i x b, l[i]? = some x → bss[i]? = some b → S.own b w ((xs.drop (i * S.size)).take S.size) x)
    (hlt : ∀ b ∈ bss.flatten, b < w0.heap.size) (hvlt : ∀ g, v.ownBlock = some g → g < w0.heap.size) (hx : S.fresh w0.heap.size w c x) (hB : B ≤ w0.heap.size) (hw : w0.heap.size ≤ w.heap.size)
    (r1 : w'.ownsRow B e S.size v' (l.length + 1) (xs ++ c)) (r2 : Turns v.ownBlock.toList w w') (r3 : v'.ownBlock = v.ownBlock ∨ v'.ownBlock = some (w.heap.size + 1)) :
    ListOwn S B e w' v' (l ++ [x]) := by
  obtain ⟨bx, k1, k2, k3⟩ := hx
  have hin : ∀ k, k ∈ v.ownBlock.toList → v.ownBlock = some k := by
    intro k hk
    cases hv : v.ownBlock with
    | none => rw [hv] at hk; simp at hk
    | some g => rw [hv] at hk; simp at hk; rw [hk]
  have hxl : ∀ b ∈ bx, b < w.heap.size := S.own_lt k1
  refine ⟨xs ++ c, bss ++ [bx], by simpa using r1, by simp [h2], ?_, ?_, ?_⟩
  · rw [List.flatten_append, List.nodup_append]
    refine ⟨h3, by simpa using k2, fun a ha b hb hab => ?_⟩
    subst hab
    have := hlt a ha
    have := k3 a (by simpa using hb)
    omega
  · intro b hb
    rw [List.flatten_append] at hb
    rcases List.mem_append.1 hb with hb | hb
    · refine ⟨(h4 b hb).1, fun e => ?_⟩
      rcases r3 with r3 | r3
      · exact (h4 b hb).2 (e.trans r3)
      · rw [r3] at e
        have := hlt b hb
        simp at e
        omega
    · have hb : b ∈ bx := by simpa using hb
      have := k3 b hb
      refine ⟨by omega, fun e => ?_⟩
      rcases r3 with r3 | r3
      · have := hvlt b (r3.symm.trans e.symm)
        omega
      · rw [r3] at e
        have := hxl b hb
        simp at e
        omega
  · intro i y b hy hb
    by_cases hi : i < l.length
    · rw [List.getElem?_append_left hi] at hy
      rw [List.getElem?_append_left (by omega)] at hb
      rw [chunk_append hrow.1 hi]
      refine Ty.own_turns (h5 i y b hy hb) r2 (fun k hk hkv => ?_)
      exact (h4 k (List.mem_flatten.2 ⟨b, List.mem_of_getElem? hb, hk⟩)).2 (hin k hkv).symm
    · have hi' : i = l.length := by
        have := (List.getElem?_eq_some_iff.1 hy).1
        simp at this
        omega
      subst hi'
      simp at hy
      subst hy
      rw [← h2, List.getElem?_append_right (Nat.le_refl _)] at hb
      simp at hb
      subst hb
      have hc : c.length = S.size := S.len (S.own_rd k1)
      rw [chunk_last hrow.1 hc]
      refine Ty.own_turns k1 r2 (fun k hk hkv => ?_)
      have := hvlt k (hin k hkv)
      have := k3 k hk
      omega

theorem ListOwn.fresh {S : Ty α} {B : Nat} {e : TypeId} {w : World} {v : Value} {l : List α} (h : ListOwn S B e w v l) : (tSlice S).fresh B w [v] l := by
  obtain ⟨xs, bss, h1, h2, h3, h4, h5⟩ := h
  rcases h1.2 with ⟨rfl, h0⟩ | ⟨g, cap, cur, rfl, hg, hh, hn, hc, hs, ht⟩
  · have : l = [] := List.eq_nil_of_length_eq_zero h0
    subst this
    exact nil_fresh
  · refine ⟨g :: bss.flatten, ⟨some ⟨g, 0, none⟩, cap, rfl, hn, hc, (fun e => by cases e), .inr ⟨g, e, cur, bss, rfl, hh, hs, h2, rfl, ?_⟩⟩, ?_, ?_⟩
    · intro k x b hk hb
      have hkl : k < l.length := (List.getElem?_eq_some_iff.1 hk).1
      have := h5 k x b hk hb
      rw [← ht, List.drop_take, List.take_take] at this
      have h6 : (k + 1) * S.size ≤ l.length * S.size := Nat.mul_le_mul_right _ hkl
      rw [Nat.succ_mul] at h6
      rwa [Nat.min_eq_left (by omega)] at this
    · rw [List.nodup_cons]
      exact ⟨fun hgm => (h4 g hgm).2 rfl, h3⟩
    · intro b hb
      rcases List.mem_cons.1 hb with rfl | hb
      · exact hg
      · exact (h4 b hb).1

/-- 'out = append(out, x)', x just made: the list is one longer. -/
theorem wpList_pushOwn {P : Program} {ops : Array Oper} {rest : List Oper} {o : Oper} {a : Act} {Q : Exit → Act → World → Prop} {w : World} {C : Array Value} {te : TypeId} (S : Ty α) (w0 : World) (hgd : o.guard = none) (s x : Operand) (t : TypeId)
    (ho : o.op = .call { callee := .builtin .append, args := #[s, x], argTypes := #[t, t] })
    (B : Nat) (e : TypeId) (i : TypeInfo) (z : Value) (bytes : Nat) (ht : P.underlying t = some (.slice e)) (hi : P.info? e = some i) (hz : i.zero = some z)
    (hsize : i.size = S.size) (hby : i.bytes = bytes) (hzs : z.cells.size = S.size) (hsz : 0 < S.size)
    {v : Value} {l : List α} (hs : a.eval s = v) (hlist : ListOwn S B e w0 v l) (hmore : More w0 w)
    {N : Nat} (hx : a.eval x = .slice (some ⟨N, 0, none⟩) 1 1) (hN : w.heap.size = N) {y : α} (hy : S.fresh w0.heap.size w C.toList y) (hlen : Hid (l.length ≤ 2097152)) (hbytes : bytes ≤ 65536) (hB : Hid (B ≤ w0.heap.size))
    (h : ∀ v' w', ListOwn S B e w' v' (l ++ [y]) → (∀ W : World, W.heap.size = B → More W w → More W w') → wpList P ops Q rest (a.put o.dst v') w') :
    wpList P ops Q (o :: rest) a (w.alloc (.cells C te)) := by
  subst hN
  have hB := hB.out
  have hn : (l.length + 1) * bytes ≤ 140737488355328 := by
    have := Nat.mul_le_mul (show l.length + 1 ≤ 2097153 by have := hlen.out; omega) hbytes
    omega
  have hm : l.length + 1 ≤ maxLen := by have := hlen.out; unfold maxLen; omega
  obtain ⟨xs, bss, h1, h2, h3, h4, h5⟩ := hlist
  have hw := hmore.size
  have hat := Ty.fresh_at hy
  refine wpList_push w C te hgd s x t ho B e i z S.size bytes ht hi hz hsize hby hzs hsz v l.length xs hs (ownsRow_more h1 hmore) hx (by simpa using S.len hat) (S.one hat) hn hm (by omega) fun v' w' r1 r2 r3 => h v' w' ?_ ?_
  · refine ListOwn.push (w0 := w0) (ownsRow_more h1 hmore) h2 h3 h4 (fun i x b hx hb => Ty.own_more (h5 i x b hx hb) hmore) (fun b hb => ?_) (fun g hg => (ownsRow_lt h1 hg).2) hy hB hw r1 r2 r3
    obtain ⟨b', hb1, hb2⟩ := List.mem_flatten.1 hb
    obtain ⟨j, hj, rfl⟩ := List.getElem_of_mem hb1
    exact S.own_lt (h5 j _ _ (List.getElem?_eq_getElem (by omega)) (List.getElem?_eq_getElem hj)) b hb2
  · intro W hW hWm
    subst hW
    refine More.turn hWm r2 (fun k hk => ?_)
    cases hv : v.ownBlock with
    | none => rw [hv] at hk; simp at hk
    | some g => rw [hv] at hk; simp at hk; rw [hk]; exact (ownsRow_lt h1 hv).1

theorem flat_fresh {S : Ty α} (F : Flat S) {B : Nat} {w : World} {x : α} (h : F.ok x) : S.fresh B w (F.enc x) x := ⟨[], (F.own_iff _ _ _ _).2 ⟨rfl, rfl, h⟩, by simp, by simp⟩
theorem vec_fresh {B : Nat} {w : World} {x y : Int} (h1 : In64 x) (h2 : In64 y) : tVec.fresh B w [.int .i64 x, .int .i64 y] (x, y) := flat_fresh fVec (x := (x, y)) ⟨h1, h2⟩


/-! ### A row that was made, filled element by element -/
def setCs (w : World) (g : Nat) : Nat → List Value → World
  | _, [] => w
  | o, c :: cs => setCs (w.setCell ⟨g, o, none⟩ c) g (o + 1) cs
def setL (xs : List Value) : Nat → List Value → List Value
  | _, [] => xs
  | o, c :: cs => setL (xs.set o c) (o + 1) cs
theorem setL_length (cs : List Value) : ∀ (xs : List Value) (o : Nat), (setL xs o cs).length = xs.length := by
  induction cs with
  | nil => intro xs o; rfl
  | cons c cs ih => intro xs o; rw [setL, ih]; simp
theorem setL_get (cs : List Value) : ∀ (xs : List Value) (o j : Nat), (setL xs o cs)[j]? = if o ≤ j ∧ j < o + cs.length ∧ j < xs.length then cs[j - o]? else xs[j]? := by
  induction cs with
  | nil => intro xs o j; simp [setL]; omega
  | cons c cs ih =>
    intro xs o j
    rw [setL, ih, List.length_set, List.length_cons, List.getElem?_set]
    by_cases h1 : o = j
    · subst h1
      rw [if_neg (by omega), if_pos rfl]
      by_cases h2 : o < xs.length
      · rw [if_pos h2, if_pos (by omega), Nat.sub_self]; rfl
      · rw [if_neg h2, if_neg (by omega), List.getElem?_eq_none (by omega)]
    · rw [if_neg h1]
      by_cases h2 : o + 1 ≤ j ∧ j < o + 1 + cs.length ∧ j < xs.length
      · rw [if_pos h2, if_pos (by omega), show j - o = (j - (o + 1)) + 1 by omega, List.getElem?_cons_succ]
      · rw [if_neg h2, if_neg (by omega)]
theorem setCs_row (cs : List Value) : ∀ (w : World) (B e s g n cap o : Nat) (xs : List Value), w.ownsRow B e s (.slice (some ⟨g, 0, none⟩) n cap) n xs →
    (setCs w g o cs).ownsRow B e s (.slice (some ⟨g, 0, none⟩) n cap) n (setL xs o cs) := by
  induction cs with
  | nil => intro w B e s g n cap o xs h; exact h
  | cons c cs ih => intro w B e s g n cap o xs h; exact ih _ _ _ _ _ _ _ _ _ (h.stored o c).1
theorem setCs_turns (cs : List Value) : ∀ (w : World) (g o : Nat), Turns [g] w (setCs w g o cs) := by
  induction cs with
  | nil => intro w g o; exact Turns.refl _ _
  | cons c cs ih => intro w g o; exact Turns.trans ((Turns.refl _ _).setCell (.inl (by simp)) _) (ih _ _ _)
theorem setL_chunk_same {xs cs : List Value} {k s n : Nat} (hx : xs.length = n * s) (hc : cs.length = s) (hk : k < n) : ((setL xs (k * s) cs).drop (k * s)).take s = cs := by
  have h1 : (k + 1) * s ≤ n * s := Nat.mul_le_mul_right _ hk
  rw [Nat.succ_mul] at h1
  apply List.ext_getElem?
  intro j
  rw [List.getElem?_take]
  by_cases hj : j < s
  · rw [if_pos hj, List.getElem?_drop, setL_get, if_pos (by omega)]
    congr 1
    omega
  · rw [if_neg hj, List.getElem?_eq_none (by omega)]
theorem setL_chunk_other {xs cs : List Value} {k i s : Nat} (hc : cs.length = s) (hk : i ≠ k) : ((setL xs (k * s) cs).drop (i * s)).take s = (xs.drop (i * s)).take s := by
  apply List.ext_getElem?
  intro j
  rw [List.getElem?_take, List.getElem?_take]
  by_cases hj : j < s
  · rw [if_pos hj, if_pos hj, List.getElem?_drop, List.getElem?_drop, setL_get, if_neg]
    rintro ⟨h1, h2, _⟩
    rcases Nat.lt_or_gt_of_ne hk with h | h
    · have h3 : (i + 1) * s ≤ k * s := Nat.mul_le_mul_right _ h
      rw [Nat.succ_mul] at h3
      omega
    · have h3 : (k + 1) * s ≤ i * s := Nat.mul_le_mul_right _ h
      rw [Nat.succ_mul] at h3
      omega
  · rw [if_neg hj, if_neg hj]

/-- A made row of n elements at block g; the first k are those of l. -/
def RowK (S : Ty α) (B : Nat) (e : TypeId) (w : World) (g n cap : Nat) (l : List α) (k : Nat) : Prop :=
  ∃ (xs : List Value) (bss : List (List Nat)), w.ownsRow B e S.size (.slice (some ⟨g, 0, none⟩) n cap) n xs ∧ bss.length = k ∧ bss.flatten.Nodup ∧ (∀ b ∈ bss.flatten, B ≤ b ∧ b ≠ g ∧ b < w.heap.size) ∧ g < w.heap.size ∧
    ∀ i x b, i < k → l[i]? = some x → bss[i]? = some b → S.own b w ((xs.drop (i * S.size)).take S.size) x

theorem RowK.start {S : Ty α} {B : Nat} {e : TypeId} {w : World} {g n cap : Nat} {l : List α} {xs : List Value} (h : w.ownsRow B e S.size (.slice (some ⟨g, 0, none⟩) n cap) n xs) : RowK S B e w g n cap l 0 :=
  ⟨xs, [], h, rfl, by simp, by simp, (ownsRow_lt h rfl).2, fun i x b hi => by omega⟩
theorem RowK.more {S : Ty α} {B : Nat} {e : TypeId} {w w' : World} {g n cap k : Nat} {l : List α} (h : RowK S B e w g n cap l k) (hm : More w w') : RowK S B e w' g n cap l k := by
  obtain ⟨xs, bss, h1, h2, h3, h4, h5, h6⟩ := h
  have := hm.size
  exact ⟨xs, bss, ownsRow_more h1 hm, h2, h3, fun b hb => ⟨(h4 b hb).1, (h4 b hb).2.1, Nat.lt_of_lt_of_le (h4 b hb).2.2 this⟩, Nat.lt_of_lt_of_le h5 this, fun i x b hi hx hb => Ty.own_more (h6 i x b hi hx hb) hm⟩
/-- The cells of element k are there. -/
theorem RowK.cells {S : Ty α} {B : Nat} {e : TypeId} {w : World} {g n cap k : Nat} {l : List α} (h : RowK S B e w g n cap l k) (j : Nat) (hj : j < n * S.size) : (∃ u, w.cell? ⟨g, j, none⟩ = some u) ∧ w.frozen? ⟨g, j, none⟩ = false := by
  obtain ⟨xs, bss, h1, _⟩ := h
  refine ⟨?_, h1.frozenAt j⟩
  rw [h1.cellAt j hj]
  exact ⟨_, List.getElem?_eq_getElem (by rw [h1.1]; exact hj)⟩
theorem RowK.base {S : Ty α} {B : Nat} {e : TypeId} {w : World} {g n cap k : Nat} {l : List α} (h : RowK S B e w g n cap l k) : B ≤ g ∧ g < w.heap.size := by
  obtain ⟨xs, bss, h1, _⟩ := h
  exact ownsRow_lt h1 rfl
theorem RowK.step {S : Ty α} {B : Nat} {e : TypeId} {w0 w : World} {g n cap k : Nat} {l : List α} {x : α} {c : List Value} (h : RowK S B e w0 g n cap l k) (hm : More w0 w) (hk : k < n) (hx : l[k]? = some x) (hf : S.fresh w0.heap.size w c x) :
    RowK S B e (setCs w g (k * S.size) c) g n cap l (k + 1) := by
  obtain ⟨xs, bss, h1, h2, h3, h4, h5, h6⟩ := h
  obtain ⟨bx, k1, k2, k3⟩ := hf
  have h1' := ownsRow_more h1 hm
  have hgB := (ownsRow_lt h1 rfl).1
  have hc : c.length = S.size := S.len (S.own_rd k1)
  have ht := setCs_turns c w g (k * S.size)
  have hsz := hm.size
  have hts := ht.size
  refine ⟨setL xs (k * S.size) c, bss ++ [bx], setCs_row c _ _ _ _ _ _ _ _ _ h1', by simp [h2], ?_, ?_, by omega, ?_⟩
  · rw [List.flatten_append, List.nodup_append]
    refine ⟨h3, by simpa using k2, fun a ha b hb hab => ?_⟩
    subst hab
    have := (h4 a ha).2.2
    have := k3 a (by simpa using hb)
    omega
  · intro b hb
    rw [List.flatten_append] at hb
    rcases List.mem_append.1 hb with hb | hb
    · have := h4 b hb
      exact ⟨this.1, this.2.1, by omega⟩
    · have hb : b ∈ bx := by simpa using hb
      have := k3 b hb
      have := S.own_lt k1 b hb
      have : B ≤ g := hgB
      exact ⟨by omega, by omega, by omega⟩
  · intro i y b hi hy hb
    by_cases hik : i = k
    · subst hik
      rw [hx] at hy
      cases hy
      rw [List.getElem?_append_right (by omega), h2, Nat.sub_self] at hb
      simp at hb
      subst hb
      rw [setL_chunk_same h1.1 hc hk]
      refine Ty.own_turns k1 ht (fun j hj hjg => ?_)
      have := k3 j hj
      simp at hjg
      omega
    · rw [List.getElem?_append_left (by omega)] at hb
      rw [setL_chunk_other hc hik]
      refine Ty.own_turns (Ty.own_more (h6 i y b (by omega) hy hb) hm) ht (fun j hj hjg => ?_)
      simp at hjg
      exact (h4 j (List.mem_flatten.2 ⟨b, List.mem_of_getElem? hb, hj⟩)).2.1 hjg
theorem RowK.fresh {S : Ty α} {B : Nat} {e : TypeId} {w : World} {g n cap : Nat} {l : List α} (h : RowK S B e w g n cap l n) (hn : n = l.length) : (tSlice S).fresh B w [.slice (some ⟨g, 0, none⟩) n cap] l := by
  subst hn
  obtain ⟨xs, bss, h1, h2, h3, h4, h5, h6⟩ := h
  refine ListOwn.fresh (e := e) ⟨xs, bss, h1, h2, h3, fun b hb => ⟨(h4 b hb).1, fun e => (h4 b hb).2.1 (by simpa [Value.ownBlock] using e)⟩, fun i x b hx hb => h6 i x b ?_ hx hb⟩
  exact (List.getElem?_eq_some_iff.1 hx).1


/-! ### Rows of flat elements that are written in place -/
theorem own_row {S : Ty α} (F : Flat S) {bs : List Nat} {w : World} {v : Value} {l : List α} (h : (tSlice S).own bs w [v] l) :
    l = [] ∨ ∃ g cap e xs, v = .slice (some ⟨g, 0, none⟩) l.length cap ∧ bs = [g] ∧ w.ownsRow g e S.size v l.length xs ∧ 0 < l.length := by
  obtain ⟨ao, cap, hv, h1, h2, h3, h4⟩ := h
  simp at hv
  subst hv
  by_cases hl : l = []
  · exact .inl hl
  · right
    rcases h4 with h4 | ⟨g, e, cur, bss, rfl, hg, hs, hb, rfl, hx⟩
    · exact absurd h4.1 hl
    have hbs : bss.flatten = [] := by
      rw [List.flatten_eq_nil_iff]
      intro b hb'
      obtain ⟨j, hj, rfl⟩ := List.getElem_of_mem hb'
      exact ((F.own_iff _ _ _ _).1 (hx j _ _ (List.getElem?_eq_getElem (by omega)) (List.getElem?_eq_getElem hj))).1
    have hlen : (cur.toList.take (l.length * S.size)).length = l.length * S.size := by
      have hcl : cur.toList.length = cap * S.size := by simpa using hs
      rw [List.length_take, hcl]
      exact Nat.min_eq_left (Nat.mul_le_mul_right _ h1)
    exact ⟨g, cap, e, _, rfl, by rw [hbs], ⟨hlen, .inr ⟨g, cap, cur, rfl, Nat.le_refl _, hg, h1, h2, hs, rfl⟩⟩, List.length_pos_iff.2 hl⟩

theorem RowK.own_flat {S : Ty α} (F : Flat S) {B : Nat} {e : TypeId} {w : World} {g n cap : Nat} {l : List α} (h : RowK S B e w g n cap l n) (hn : n = l.length) (hl : 0 < l.length) : (tSlice S).own [g] w [.slice (some ⟨g, 0, none⟩) n cap] l := by
  subst hn
  obtain ⟨xs, bss, h1, h2, h3, h4, h5, h6⟩ := h
  have hbs : bss.flatten = [] := by
    rw [List.flatten_eq_nil_iff]
    intro b hb'
    obtain ⟨j, hj, rfl⟩ := List.getElem_of_mem hb'
    exact ((F.own_iff _ _ _ _).1 (h6 j _ _ (by omega) (List.getElem?_eq_getElem (by omega)) (List.getElem?_eq_getElem hj))).1
  have hne : l ≠ [] := by rintro rfl; simp at hl
  obtain ⟨bs, hb, _, _⟩ := ListOwn.fresh (e := e) (S := S) (B := B) (w := w) (l := l) ⟨xs, bss, h1, h2, h3, fun b hb => ⟨(h4 b hb).1, fun e => (h4 b hb).2.1 (by simpa [Value.ownBlock] using e)⟩, fun i x b hx hb => h6 i x b (List.getElem?_eq_some_iff.1 hx).1 hx hb⟩
  rcases own_row F hb with h | ⟨g', cap', e', xs', hv, rfl, _⟩
  · exact absurd h hne
  · simp at hv
    obtain ⟨rfl, _⟩ := hv
    exact hb

/-- The ints from k on, as marks. -/
def mk2 (n : Nat) (k : Int) : List QV := (List.range n).map fun (i : Nat) => (k + 2 * (i : Int), k + 2 * (i : Int) + 1)
theorem mk2_get {n i : Nat} {k : Int} (h : i < n) : (mk2 n k)[i]? = some (k + 2 * i, k + 2 * i + 1) := by
  unfold mk2
  rw [List.getElem?_map, List.getElem?_range h]
  rfl
theorem mk2_len (n : Nat) (k : Int) : (mk2 n k).length = n := by simp [mk2]
def mk1 (n : Nat) (k : Int) : List Int := (List.range n).map fun (i : Nat) => k + (i : Int)
theorem mk1_get {n i : Nat} {k : Int} (h : i < n) : (mk1 n k)[i]? = some (k + i) := by
  unfold mk1
  rw [List.getElem?_map, List.getElem?_range h]
  rfl
theorem mk1_len (n : Nat) (k : Int) : (mk1 n k).length = n := by simp [mk1]

/-- A literal list of flat elements, in a new block. -/
theorem lit_fresh {S : Ty α} (F : Flat S) {w : World} {C : Array Value} {e : TypeId} {N n : Nat} {l : List α} (hN : w.heap.size = N) (hC : C.toList = l.flatMap F.enc) (hn : l.length = n) (hs : n ≤ 1048576) (hok : ∀ x ∈ l, F.ok x) :
    (tSlice S).fresh w.heap.size (w.alloc (.cells C e)) [.slice (some ⟨N, 0, none⟩) n n] l := by
  subst hN
  subst hn
  have hl := length_flatMap_chunk (f := F.enc) (s := S.size) l (fun x hx => F.len (hok x hx))
  have h := World.ownsRow_lit (base := w.heap.size) (e := e) (size := S.size) w C l.length (Nat.le_refl _) (by unfold maxLen; omega) (by rw [← hl, ← hC]; simp)
  rw [hC] at h
  exact fresh_of_row F h hok

end Go.Proofs.YtnbefpfijaimjaaGreatDoor
/- The kinds of data of the planner: edges and what is built of vectors and fractions. It speaks of no program. -/
namespace Go.Proofs.YtnbefpfijaimjaaGreatDoor
/-- An edge: its ends, its area, whether it is a lower one. -/
abbrev QE := QV × QV × Int × Bool
def tEdge : Ty QE := tProd tVec (tProd tVec (tProd tInt tBool))
def fEdge : Flat tEdge := fProd fVec (fProd fVec (fProd fInt fBool))
end Go.Proofs.YtnbefpfijaimjaaGreatDoor
/- The kinds of data of the planner, their weights (how many elements they hold), their cells. It speaks of no program. -/
namespace Go.Proofs.YtnbefpfijaimjaaGreatDoor
open Go.RowKit
variable {α β : Type}
theorem at_prod {A : Ty α} {B : Ty β} {w : World} {cs : List Value} {x : α × β} (h : (tProd A B).at w cs x) : ∃ c1 c2, cs = c1 ++ c2 ∧ A.at w c1 x.1 ∧ B.at w c2 x.2 := h
theorem prod_at {A : Ty α} {B : Ty β} {w : World} {c1 c2 : List Value} {x : α} {y : β} (h1 : A.at w c1 x) (h2 : B.at w c2 y) : (tProd A B).at w (c1 ++ c2) (x, y) := ⟨c1, c2, rfl, h1, h2⟩
theorem int_in {w : World} {cs : List Value} {n : Int} (h : tInt.at w cs n) : In64 n := h.2
theorem sh_int {w : World} {cs : List Value} {x : Int} (h : tInt.at w cs x) : cs = [.int .i64 x] := h.1
theorem sh_bool {w : World} {cs : List Value} {x : Bool} (h : tBool.at w cs x) : cs = [.bool x] := h
theorem sh_slice {S : Ty α} {w : World} {cs : List Value} {l : List α} (h : (tSlice S).at w cs l) : ∃ (a : Option Addr) (n c : Nat), cs = [.slice a n c] := by
  obtain ⟨ao, cap, rfl, _⟩ := h
  exact ⟨_, _, _, rfl⟩
theorem sh_sliceL {S : Ty α} {w : World} {cs : List Value} {l : List α} (h : (tSlice S).at w cs l) : ∃ (a : Option Addr) (c : Nat), cs = [.slice a l.length c] := by
  obtain ⟨ao, cap, rfl, _⟩ := h
  exact ⟨_, _, rfl⟩
theorem Ty.fresh_turns {S : Ty α} {B : Nat} {bs : List Nat} {w w' : World} {cs : List Value} {x : α} (h : S.fresh B w cs x) (hb : Turns bs w w') (hk : ∀ k ∈ bs, k < B) : S.fresh B w' cs x := by
  obtain ⟨b, h1, h2, h3⟩ := h
  exact ⟨b, Ty.own_turns h1 hb (fun k hk1 hk2 => by have := h3 k hk1; have := hk k hk2; omega), h2, h3⟩
theorem Ty.fresh_pairT {A : Ty α} {C : Ty β} {B : Nat} {bs : List Nat} {w1 w2 : World} {c1 c2 : List Value} {x : α} {y : β} (h1 : A.fresh B w1 c1 x) (hb : Turns bs w1 w2) (hk : ∀ k ∈ bs, k < B) (h2 : C.fresh w1.heap.size w2 c2 y) (hB : B ≤ w1.heap.size) :
    (tProd A C).fresh B w2 (c1 ++ c2) (x, y) := by
  obtain ⟨b1, a1, a2, a3⟩ := h1
  have a4 := Ty.own_turns a1 hb (fun k hk1 hk2 => by have := a3 k hk1; have := hk k hk2; omega)
  obtain ⟨b2, d1, d2, d3⟩ := h2
  refine ⟨b1 ++ b2, ⟨b1, b2, c1, c2, rfl, rfl, a4, d1⟩, ?_, ?_⟩
  · rw [List.nodup_append]
    refine ⟨a2, d2, fun k hk k' hk' e => ?_⟩
    subst e
    have := A.own_lt a1 k hk
    have := d3 k hk'
    omega
  · intro b hb'
    rcases List.mem_append.1 hb' with h | h
    · exact a3 b h
    · have := d3 b h; omega
/-- Of a flat kind before what was made. -/
theorem Ty.fresh_flat {A : Ty α} (F : Flat A) {C : Ty β} {B : Nat} {w : World} {c1 c2 : List Value} {x : α} {y : β} (h1 : c1 = F.enc x) (h0 : F.ok x) (h2 : C.fresh B w c2 y) : (tProd A C).fresh B w (c1 ++ c2) (x, y) := by
  subst h1
  obtain ⟨b2, d1, d2, d3⟩ := h2
  exact ⟨b2, ⟨[], b2, _, c2, rfl, rfl, (F.own_iff _ _ _ _).2 ⟨rfl, rfl, h0⟩, d1⟩, d2, d3⟩
def wsum (f : α → Nat) (l : List α) : Nat := (l.map f).sum
theorem wsum_next {f : α → Nat} {l : List α} {k : Nat} {x : α} (hx : l[k]? = some x) : wsum f (l.take (k + 1)) = wsum f (l.take k) + f x := by
  obtain ⟨hk, rfl⟩ := List.getElem?_eq_some_iff.1 hx
  unfold wsum
  rw [List.take_succ_eq_append_getElem hk, List.map_append, List.sum_append]
  simp
theorem wsum_take (f : α → Nat) (l : List α) (k : Nat) : wsum f (l.take k) ≤ wsum f l := by
  unfold wsum
  conv => rhs; rw [← List.take_append_drop k l]
  rw [List.map_append, List.sum_append]
  omega
theorem wsum_el {f : α → Nat} {l : List α} {k : Nat} {x : α} (hx : l[k]? = some x) : f x ≤ wsum f l := by
  have h1 := wsum_next (f := f) hx
  have h2 := wsum_take f l (k + 1)
  omega

theorem setCs_2 (w : World) (g o : Nat) (c0 c1 : Value) : setCs w g o [c0, c1] = ((w.setCell ⟨g, o, none⟩ c0).setCell ⟨g, o + 1, none⟩ c1) := rfl
theorem setCs_3 (w : World) (g o : Nat) (c0 c1 c2 : Value) : setCs w g o [c0, c1, c2] = (((w.setCell ⟨g, o, none⟩ c0).setCell ⟨g, o + 1, none⟩ c1).setCell ⟨g, o + 2, none⟩ c2) := rfl
theorem setCs_4 (w : World) (g o : Nat) (c0 c1 c2 c3 : Value) : setCs w g o [c0, c1, c2, c3] = ((((w.setCell ⟨g, o, none⟩ c0).setCell ⟨g, o + 1, none⟩ c1).setCell ⟨g, o + 2, none⟩ c2).setCell ⟨g, o + 3, none⟩ c3) := rfl
theorem setCs_6 (w : World) (g o : Nat) (c0 c1 c2 c3 c4 c5 : Value) : setCs w g o [c0, c1, c2, c3, c4, c5] = ((((((w.setCell ⟨g, o, none⟩ c0).setCell ⟨g, o + 1, none⟩ c1).setCell ⟨g, o + 2, none⟩ c2).setCell ⟨g, o + 3, none⟩ c3).setCell ⟨g, o + 4, none⟩ c4).setCell ⟨g, o + 5, none⟩ c5) := rfl
theorem setCs_7 (w : World) (g o : Nat) (c0 c1 c2 c3 c4 c5 c6 : Value) : setCs w g o [c0, c1, c2, c3, c4, c5, c6] = (((((((w.setCell ⟨g, o, none⟩ c0).setCell ⟨g, o + 1, none⟩ c1).setCell ⟨g, o + 2, none⟩ c2).setCell ⟨g, o + 3, none⟩ c3).setCell ⟨g, o + 4, none⟩ c4).setCell ⟨g, o + 5, none⟩ c5).setCell ⟨g, o + 6, none⟩ c6) := rfl
theorem setCs_9 (w : World) (g o : Nat) (c0 c1 c2 c3 c4 c5 c6 c7 c8 : Value) : setCs w g o [c0, c1, c2, c3, c4, c5, c6, c7, c8] = (((((((((w.setCell ⟨g, o, none⟩ c0).setCell ⟨g, o + 1, none⟩ c1).setCell ⟨g, o + 2, none⟩ c2).setCell ⟨g, o + 3, none⟩ c3).setCell ⟨g, o + 4, none⟩ c4).setCell ⟨g, o + 5, none⟩ c5).setCell ⟨g, o + 6, none⟩ c6).setCell ⟨g, o + 7, none⟩ c7).setCell ⟨g, o + 8, none⟩ c8) := rfl
theorem setCs_10 (w : World) (g o : Nat) (c0 c1 c2 c3 c4 c5 c6 c7 c8 c9 : Value) : setCs w g o [c0, c1, c2, c3, c4, c5, c6, c7, c8, c9] = ((((((((((w.setCell ⟨g, o, none⟩ c0).setCell ⟨g, o + 1, none⟩ c1).setCell ⟨g, o + 2, none⟩ c2).setCell ⟨g, o + 3, none⟩ c3).setCell ⟨g, o + 4, none⟩ c4).setCell ⟨g, o + 5, none⟩ c5).setCell ⟨g, o + 6, none⟩ c6).setCell ⟨g, o + 7, none⟩ c7).setCell ⟨g, o + 8, none⟩ c8).setCell ⟨g, o + 9, none⟩ c9) := rfl
theorem setCs_11 (w : World) (g o : Nat) (c0 c1 c2 c3 c4 c5 c6 c7 c8 c9 c10 : Value) : setCs w g o [c0, c1, c2, c3, c4, c5, c6, c7, c8, c9, c10] = (((((((((((w.setCell ⟨g, o, none⟩ c0).setCell ⟨g, o + 1, none⟩ c1).setCell ⟨g, o + 2, none⟩ c2).setCell ⟨g, o + 3, none⟩ c3).setCell ⟨g, o + 4, none⟩ c4).setCell ⟨g, o + 5, none⟩ c5).setCell ⟨g, o + 6, none⟩ c6).setCell ⟨g, o + 7, none⟩ c7).setCell ⟨g, o + 8, none⟩ c8).setCell ⟨g, o + 9, none⟩ c9).setCell ⟨g, o + 10, none⟩ c10) := rfl
theorem setCs_18 (w : World) (g o : Nat) (c0 c1 c2 c3 c4 c5 c6 c7 c8 c9 c10 c11 c12 c13 c14 c15 c16 c17 : Value) : setCs w g o [c0, c1, c2, c3, c4, c5, c6, c7, c8, c9, c10, c11, c12, c13, c14, c15, c16, c17] = ((((((((((((((((((w.setCell ⟨g, o, none⟩ c0).setCell ⟨g, o + 1, none⟩ c1).setCell ⟨g, o + 2, none⟩ c2).setCell ⟨g, o + 3, none⟩ c3).setCell ⟨g, o + 4, none⟩ c4).setCell ⟨g, o + 5, none⟩ c5).setCell ⟨g, o + 6, none⟩ c6).setCell ⟨g, o + 7, none⟩ c7).setCell ⟨g, o + 8, none⟩ c8).setCell ⟨g, o + 9, none⟩ c9).setCell ⟨g, o + 10, none⟩ c10).setCell ⟨g, o + 11, none⟩ c11).setCell ⟨g, o + 12, none⟩ c12).setCell ⟨g, o + 13, none⟩ c13).setCell ⟨g, o + 14, none⟩ c14).setCell ⟨g, o + 15, none⟩ c15).setCell ⟨g, o + 16, none⟩ c16).setCell ⟨g, o + 17, none⟩ c17) := rfl
theorem sh_Vec {w : World} {cs : List Value} {x : QV} (h : tVec.at w cs x) : cs = [.int .i64 x.1, .int .i64 x.2] := by
  obtain ⟨c0, d0, rfl, h0, e0⟩ := at_prod h
  have h1 := e0; clear e0
  obtain rfl := sh_int h0
  obtain rfl := sh_int h1
  exact rfl
theorem el_Vec {w : World} {ao : Option Addr} {n cap : Nat} {l : List (QV)} (h : (tSlice tVec).at w [.slice ao n cap] l) {k : Nat} (hk : k < l.length) :
    ∃ (b off : Nat) (x : QV) , ao = some ⟨b, off, none⟩ ∧ b < w.heap.size ∧ l[k]? = some x ∧ tVec.at w [.int .i64 x.1, .int .i64 x.2] x ∧ w.cell? ⟨b, off + k * 2, none⟩ = some (.int .i64 x.1) ∧ w.cell? ⟨b, off + k * 2 + 1, none⟩ = some (.int .i64 x.2) := by
  obtain ⟨x, hx⟩ : ∃ x, l[k]? = some x := ⟨_, List.getElem?_eq_getElem hk⟩
  obtain ⟨b, off, c, rfl, hb, hc, hv⟩ := sl_el h hx
  obtain rfl := sh_Vec hc
  exact ⟨b, off, x, rfl, hb, hx, hc, hv 0 _ rfl, hv 1 _ rfl⟩
def wVecS (l : List QV) : Nat := l.length
theorem el_VecS {w : World} {ao : Option Addr} {n cap : Nat} {l : List (List QV)} (h : (tSlice tVecs).at w [.slice ao n cap] l) {k : Nat} (hk : k < l.length) :
    ∃ (b off : Nat) (x : List QV) (a0 : Option Addr) (n0 : Nat) (c0 : Nat), ao = some ⟨b, off, none⟩ ∧ b < w.heap.size ∧ l[k]? = some x ∧ tVecs.at w [.slice a0 n0 c0] x ∧ w.cell? ⟨b, off + k, none⟩ = some (.slice a0 n0 c0) := by
  obtain ⟨x, hx⟩ : ∃ x, l[k]? = some x := ⟨_, List.getElem?_eq_getElem hk⟩
  obtain ⟨b, off, c, rfl, hb, hc, hv⟩ := sl_el h hx
  obtain ⟨a0, n0, c0, rfl⟩ := sh_slice hc
  have h0 := hv 0 _ rfl
  exact ⟨b, off, x, a0, n0, c0, rfl, hb, hx, hc, by rwa [show off + k * tVecs.size + 0 = off + k from by show off + k * 1 + 0 = _; omega] at h0⟩
abbrev tVecSS := tSlice tVecs
def wVecSS (l : List (List QV)) : Nat := l.length + wsum wVecS l
def wIntS (l : List Int) : Nat := l.length
theorem el_IntS {w : World} {ao : Option Addr} {n cap : Nat} {l : List (List Int)} (h : (tSlice tInts).at w [.slice ao n cap] l) {k : Nat} (hk : k < l.length) :
    ∃ (b off : Nat) (x : List Int) (a0 : Option Addr) (n0 : Nat) (c0 : Nat), ao = some ⟨b, off, none⟩ ∧ b < w.heap.size ∧ l[k]? = some x ∧ tInts.at w [.slice a0 n0 c0] x ∧ w.cell? ⟨b, off + k, none⟩ = some (.slice a0 n0 c0) := by
  obtain ⟨x, hx⟩ : ∃ x, l[k]? = some x := ⟨_, List.getElem?_eq_getElem hk⟩
  obtain ⟨b, off, c, rfl, hb, hc, hv⟩ := sl_el h hx
  obtain ⟨a0, n0, c0, rfl⟩ := sh_slice hc
  have h0 := hv 0 _ rfl
  exact ⟨b, off, x, a0, n0, c0, rfl, hb, hx, hc, by rwa [show off + k * tInts.size + 0 = off + k from by show off + k * 1 + 0 = _; omega] at h0⟩
abbrev tIntSS := tSlice tInts
def wIntSS (l : List (List Int)) : Nat := l.length + wsum wIntS l
def wBigInt (x : Bool × List Int) : Nat := wIntS x.2
theorem sh_BigInt {w : World} {cs : List Value} {x : Bool × List Int} (h : tBig.at w cs x) : ∃ (a1 : Option Addr) (n1 : Nat) (c1 : Nat), cs = [.bool x.1, .slice a1 n1 c1] := by
  obtain ⟨c0, d0, rfl, h0, e0⟩ := at_prod h
  have h1 := e0; clear e0
  obtain rfl := sh_bool h0
  obtain ⟨z1a0, z1n0, z1c0, rfl⟩ := sh_slice h1
  exact ⟨_, _, _, rfl⟩
theorem el_BigInt {w : World} {ao : Option Addr} {n cap : Nat} {l : List (Bool × List Int)} (h : (tSlice tBig).at w [.slice ao n cap] l) {k : Nat} (hk : k < l.length) :
    ∃ (b off : Nat) (x : Bool × List Int) (a1 : Option Addr) (n1 : Nat) (c1 : Nat), ao = some ⟨b, off, none⟩ ∧ b < w.heap.size ∧ l[k]? = some x ∧ tBig.at w [.bool x.1, .slice a1 n1 c1] x ∧ w.cell? ⟨b, off + k * 2, none⟩ = some (.bool x.1) ∧ w.cell? ⟨b, off + k * 2 + 1, none⟩ = some (.slice a1 n1 c1) := by
  obtain ⟨x, hx⟩ : ∃ x, l[k]? = some x := ⟨_, List.getElem?_eq_getElem hk⟩
  obtain ⟨b, off, c, rfl, hb, hc, hv⟩ := sl_el h hx
  obtain ⟨a1, n1, c1, rfl⟩ := sh_BigInt hc
  exact ⟨b, off, x, a1, n1, c1, rfl, hb, hx, hc, hv 0 _ rfl, hv 1 _ rfl⟩
def wRat (x : QR) : Nat := wBigInt x.1 + wIntS x.2
theorem sh_Rat {w : World} {cs : List Value} {x : QR} (h : tRat.at w cs x) : ∃ (a1 : Option Addr) (n1 : Nat) (c1 : Nat) (a2 : Option Addr) (n2 : Nat) (c2 : Nat), cs = [.bool x.1.1, .slice a1 n1 c1, .slice a2 n2 c2] := by
  obtain ⟨c0, d0, rfl, h0, e0⟩ := at_prod h
  have h1 := e0; clear e0
  obtain ⟨z0a1, z0n1, z0c1, rfl⟩ := sh_BigInt h0
  obtain ⟨z1a0, z1n0, z1c0, rfl⟩ := sh_slice h1
  exact ⟨_, _, _, _, _, _, rfl⟩
theorem el_Rat {w : World} {ao : Option Addr} {n cap : Nat} {l : List (QR)} (h : (tSlice tRat).at w [.slice ao n cap] l) {k : Nat} (hk : k < l.length) :
    ∃ (b off : Nat) (x : QR) (a1 : Option Addr) (n1 : Nat) (c1 : Nat) (a2 : Option Addr) (n2 : Nat) (c2 : Nat), ao = some ⟨b, off, none⟩ ∧ b < w.heap.size ∧ l[k]? = some x ∧ tRat.at w [.bool x.1.1, .slice a1 n1 c1, .slice a2 n2 c2] x ∧ w.cell? ⟨b, off + k * 3, none⟩ = some (.bool x.1.1) ∧ w.cell? ⟨b, off + k * 3 + 1, none⟩ = some (.slice a1 n1 c1) ∧ w.cell? ⟨b, off + k * 3 + 2, none⟩ = some (.slice a2 n2 c2) := by
  obtain ⟨x, hx⟩ : ∃ x, l[k]? = some x := ⟨_, List.getElem?_eq_getElem hk⟩
  obtain ⟨b, off, c, rfl, hb, hc, hv⟩ := sl_el h hx
  obtain ⟨a1, n1, c1, a2, n2, c2, rfl⟩ := sh_Rat hc
  exact ⟨b, off, x, a1, n1, c1, a2, n2, c2, rfl, hb, hx, hc, hv 0 _ rfl, hv 1 _ rfl, hv 2 _ rfl⟩
abbrev tRatS := tSlice tRat
def wRatS (l : List (QR)) : Nat := l.length + wsum wRat l
def wPoint (x : QP) : Nat := wRat x.1 + wRat x.2
theorem sh_Point {w : World} {cs : List Value} {x : QP} (h : tPoint.at w cs x) : ∃ (a1 : Option Addr) (n1 : Nat) (c1 : Nat) (a2 : Option Addr) (n2 : Nat) (c2 : Nat) (a4 : Option Addr) (n4 : Nat) (c4 : Nat) (a5 : Option Addr) (n5 : Nat) (c5 : Nat), cs = [.bool x.1.1.1, .slice a1 n1 c1, .slice a2 n2 c2, .bool x.2.1.1, .slice a4 n4 c4, .slice a5 n5 c5] := by
  obtain ⟨c0, d0, rfl, h0, e0⟩ := at_prod h
  have h1 := e0; clear e0
  obtain ⟨z0a1, z0n1, z0c1, z0a2, z0n2, z0c2, rfl⟩ := sh_Rat h0
  obtain ⟨z1a1, z1n1, z1c1, z1a2, z1n2, z1c2, rfl⟩ := sh_Rat h1
  exact ⟨_, _, _, _, _, _, _, _, _, _, _, _, rfl⟩
theorem el_Point {w : World} {ao : Option Addr} {n cap : Nat} {l : List (QP)} (h : (tSlice tPoint).at w [.slice ao n cap] l) {k : Nat} (hk : k < l.length) :
    ∃ (b off : Nat) (x : QP) (a1 : Option Addr) (n1 : Nat) (c1 : Nat) (a2 : Option Addr) (n2 : Nat) (c2 : Nat) (a4 : Option Addr) (n4 : Nat) (c4 : Nat) (a5 : Option Addr) (n5 : Nat) (c5 : Nat), ao = some ⟨b, off, none⟩ ∧ b < w.heap.size ∧ l[k]? = some x ∧ tPoint.at w [.bool x.1.1.1, .slice a1 n1 c1, .slice a2 n2 c2, .bool x.2.1.1, .slice a4 n4 c4, .slice a5 n5 c5] x ∧ w.cell? ⟨b, off + k * 6, none⟩ = some (.bool x.1.1.1) ∧ w.cell? ⟨b, off + k * 6 + 1, none⟩ = some (.slice a1 n1 c1) ∧ w.cell? ⟨b, off + k * 6 + 2, none⟩ = some (.slice a2 n2 c2) ∧ w.cell? ⟨b, off + k * 6 + 3, none⟩ = some (.bool x.2.1.1) ∧ w.cell? ⟨b, off + k * 6 + 4, none⟩ = some (.slice a4 n4 c4) ∧ w.cell? ⟨b, off + k * 6 + 5, none⟩ = some (.slice a5 n5 c5) := by
  obtain ⟨x, hx⟩ : ∃ x, l[k]? = some x := ⟨_, List.getElem?_eq_getElem hk⟩
  obtain ⟨b, off, c, rfl, hb, hc, hv⟩ := sl_el h hx
  obtain ⟨a1, n1, c1, a2, n2, c2, a4, n4, c4, a5, n5, c5, rfl⟩ := sh_Point hc
  exact ⟨b, off, x, a1, n1, c1, a2, n2, c2, a4, n4, c4, a5, n5, c5, rfl, hb, hx, hc, hv 0 _ rfl, hv 1 _ rfl, hv 2 _ rfl, hv 3 _ rfl, hv 4 _ rfl, hv 5 _ rfl⟩
abbrev tPointS := tSlice tPoint
def wPointS (l : List (QP)) : Nat := l.length + wsum wPoint l
theorem sh_Edge {w : World} {cs : List Value} {x : QE} (h : tEdge.at w cs x) : cs = [.int .i64 x.1.1, .int .i64 x.1.2, .int .i64 x.2.1.1, .int .i64 x.2.1.2, .int .i64 x.2.2.1, .bool x.2.2.2] := by
  obtain ⟨c0, d0, rfl, h0, e0⟩ := at_prod h
  obtain ⟨c1, d1, rfl, h1, e1⟩ := at_prod e0
  obtain ⟨c2, d2, rfl, h2, e2⟩ := at_prod e1
  have h3 := e2; clear e2
  obtain rfl := sh_Vec h0
  obtain rfl := sh_Vec h1
  obtain rfl := sh_int h2
  obtain rfl := sh_bool h3
  exact rfl
theorem el_Edge {w : World} {ao : Option Addr} {n cap : Nat} {l : List (QE)} (h : (tSlice tEdge).at w [.slice ao n cap] l) {k : Nat} (hk : k < l.length) :
    ∃ (b off : Nat) (x : QE) , ao = some ⟨b, off, none⟩ ∧ b < w.heap.size ∧ l[k]? = some x ∧ tEdge.at w [.int .i64 x.1.1, .int .i64 x.1.2, .int .i64 x.2.1.1, .int .i64 x.2.1.2, .int .i64 x.2.2.1, .bool x.2.2.2] x ∧ w.cell? ⟨b, off + k * 6, none⟩ = some (.int .i64 x.1.1) ∧ w.cell? ⟨b, off + k * 6 + 1, none⟩ = some (.int .i64 x.1.2) ∧ w.cell? ⟨b, off + k * 6 + 2, none⟩ = some (.int .i64 x.2.1.1) ∧ w.cell? ⟨b, off + k * 6 + 3, none⟩ = some (.int .i64 x.2.1.2) ∧ w.cell? ⟨b, off + k * 6 + 4, none⟩ = some (.int .i64 x.2.2.1) ∧ w.cell? ⟨b, off + k * 6 + 5, none⟩ = some (.bool x.2.2.2) := by
  obtain ⟨x, hx⟩ : ∃ x, l[k]? = some x := ⟨_, List.getElem?_eq_getElem hk⟩
  obtain ⟨b, off, c, rfl, hb, hc, hv⟩ := sl_el h hx
  obtain rfl := sh_Edge hc
  exact ⟨b, off, x, rfl, hb, hx, hc, hv 0 _ rfl, hv 1 _ rfl, hv 2 _ rfl, hv 3 _ rfl, hv 4 _ rfl, hv 5 _ rfl⟩
abbrev tEdgeS := tSlice tEdge
def wEdgeS (l : List (QE)) : Nat := l.length
abbrev QBox := QV × QV
abbrev tBox : Ty QBox := tProd tVec (tVec)
def fBox : Flat tBox := fProd fVec (fVec)
theorem sh_Box {w : World} {cs : List Value} {x : QBox} (h : tBox.at w cs x) : cs = [.int .i64 x.1.1, .int .i64 x.1.2, .int .i64 x.2.1, .int .i64 x.2.2] := by
  obtain ⟨c0, d0, rfl, h0, e0⟩ := at_prod h
  have h1 := e0; clear e0
  obtain rfl := sh_Vec h0
  obtain rfl := sh_Vec h1
  exact rfl
theorem el_Box {w : World} {ao : Option Addr} {n cap : Nat} {l : List (QBox)} (h : (tSlice tBox).at w [.slice ao n cap] l) {k : Nat} (hk : k < l.length) :
    ∃ (b off : Nat) (x : QBox) , ao = some ⟨b, off, none⟩ ∧ b < w.heap.size ∧ l[k]? = some x ∧ tBox.at w [.int .i64 x.1.1, .int .i64 x.1.2, .int .i64 x.2.1, .int .i64 x.2.2] x ∧ w.cell? ⟨b, off + k * 4, none⟩ = some (.int .i64 x.1.1) ∧ w.cell? ⟨b, off + k * 4 + 1, none⟩ = some (.int .i64 x.1.2) ∧ w.cell? ⟨b, off + k * 4 + 2, none⟩ = some (.int .i64 x.2.1) ∧ w.cell? ⟨b, off + k * 4 + 3, none⟩ = some (.int .i64 x.2.2) := by
  obtain ⟨x, hx⟩ : ∃ x, l[k]? = some x := ⟨_, List.getElem?_eq_getElem hk⟩
  obtain ⟨b, off, c, rfl, hb, hc, hv⟩ := sl_el h hx
  obtain rfl := sh_Box hc
  exact ⟨b, off, x, rfl, hb, hx, hc, hv 0 _ rfl, hv 1 _ rfl, hv 2 _ rfl, hv 3 _ rfl⟩
abbrev QScene := QV × QV × (List QV) × (List (List QV)) × (List QV)
abbrev tScene : Ty QScene := tProd tVec (tProd tVec (tProd tVecs (tProd tVecSS (tVecs))))
def wScene (x : QScene) : Nat := wVecS x.2.2.1 + wVecSS x.2.2.2.1 + wVecS x.2.2.2.2
theorem sh_Scene {w : World} {cs : List Value} {x : QScene} (h : tScene.at w cs x) : ∃ (a4 : Option Addr) (n4 : Nat) (c4 : Nat) (a5 : Option Addr) (n5 : Nat) (c5 : Nat) (a6 : Option Addr) (n6 : Nat) (c6 : Nat), cs = [.int .i64 x.1.1, .int .i64 x.1.2, .int .i64 x.2.1.1, .int .i64 x.2.1.2, .slice a4 n4 c4, .slice a5 n5 c5, .slice a6 n6 c6] := by
  obtain ⟨c0, d0, rfl, h0, e0⟩ := at_prod h
  obtain ⟨c1, d1, rfl, h1, e1⟩ := at_prod e0
  obtain ⟨c2, d2, rfl, h2, e2⟩ := at_prod e1
  obtain ⟨c3, d3, rfl, h3, e3⟩ := at_prod e2
  have h4 := e3; clear e3
  obtain rfl := sh_Vec h0
  obtain rfl := sh_Vec h1
  obtain ⟨z2a0, z2n0, z2c0, rfl⟩ := sh_slice h2
  obtain ⟨z3a0, z3n0, z3c0, rfl⟩ := sh_slice h3
  obtain ⟨z4a0, z4n0, z4c0, rfl⟩ := sh_slice h4
  exact ⟨_, _, _, _, _, _, _, _, _, rfl⟩
theorem el_Scene {w : World} {ao : Option Addr} {n cap : Nat} {l : List (QScene)} (h : (tSlice tScene).at w [.slice ao n cap] l) {k : Nat} (hk : k < l.length) :
    ∃ (b off : Nat) (x : QScene) (a4 : Option Addr) (n4 : Nat) (c4 : Nat) (a5 : Option Addr) (n5 : Nat) (c5 : Nat) (a6 : Option Addr) (n6 : Nat) (c6 : Nat), ao = some ⟨b, off, none⟩ ∧ b < w.heap.size ∧ l[k]? = some x ∧ tScene.at w [.int .i64 x.1.1, .int .i64 x.1.2, .int .i64 x.2.1.1, .int .i64 x.2.1.2, .slice a4 n4 c4, .slice a5 n5 c5, .slice a6 n6 c6] x ∧ w.cell? ⟨b, off + k * 7, none⟩ = some (.int .i64 x.1.1) ∧ w.cell? ⟨b, off + k * 7 + 1, none⟩ = some (.int .i64 x.1.2) ∧ w.cell? ⟨b, off + k * 7 + 2, none⟩ = some (.int .i64 x.2.1.1) ∧ w.cell? ⟨b, off + k * 7 + 3, none⟩ = some (.int .i64 x.2.1.2) ∧ w.cell? ⟨b, off + k * 7 + 4, none⟩ = some (.slice a4 n4 c4) ∧ w.cell? ⟨b, off + k * 7 + 5, none⟩ = some (.slice a5 n5 c5) ∧ w.cell? ⟨b, off + k * 7 + 6, none⟩ = some (.slice a6 n6 c6) := by
  obtain ⟨x, hx⟩ : ∃ x, l[k]? = some x := ⟨_, List.getElem?_eq_getElem hk⟩
  obtain ⟨b, off, c, rfl, hb, hc, hv⟩ := sl_el h hx
  obtain ⟨a4, n4, c4, a5, n5, c5, a6, n6, c6, rfl⟩ := sh_Scene hc
  exact ⟨b, off, x, a4, n4, c4, a5, n5, c5, a6, n6, c6, rfl, hb, hx, hc, hv 0 _ rfl, hv 1 _ rfl, hv 2 _ rfl, hv 3 _ rfl, hv 4 _ rfl, hv 5 _ rfl, hv 6 _ rfl⟩
abbrev QStep := Int × QP
abbrev tStep : Ty QStep := tProd tInt (tPoint)
def wStep (x : QStep) : Nat := wPoint x.2
theorem sh_Step {w : World} {cs : List Value} {x : QStep} (h : tStep.at w cs x) : ∃ (a2 : Option Addr) (n2 : Nat) (c2 : Nat) (a3 : Option Addr) (n3 : Nat) (c3 : Nat) (a5 : Option Addr) (n5 : Nat) (c5 : Nat) (a6 : Option Addr) (n6 : Nat) (c6 : Nat), cs = [.int .i64 x.1, .bool x.2.1.1.1, .slice a2 n2 c2, .slice a3 n3 c3, .bool x.2.2.1.1, .slice a5 n5 c5, .slice a6 n6 c6] := by
  obtain ⟨c0, d0, rfl, h0, e0⟩ := at_prod h
  have h1 := e0; clear e0
  obtain rfl := sh_int h0
  obtain ⟨z1a1, z1n1, z1c1, z1a2, z1n2, z1c2, z1a4, z1n4, z1c4, z1a5, z1n5, z1c5, rfl⟩ := sh_Point h1
  exact ⟨_, _, _, _, _, _, _, _, _, _, _, _, rfl⟩
theorem el_Step {w : World} {ao : Option Addr} {n cap : Nat} {l : List (QStep)} (h : (tSlice tStep).at w [.slice ao n cap] l) {k : Nat} (hk : k < l.length) :
    ∃ (b off : Nat) (x : QStep) (a2 : Option Addr) (n2 : Nat) (c2 : Nat) (a3 : Option Addr) (n3 : Nat) (c3 : Nat) (a5 : Option Addr) (n5 : Nat) (c5 : Nat) (a6 : Option Addr) (n6 : Nat) (c6 : Nat), ao = some ⟨b, off, none⟩ ∧ b < w.heap.size ∧ l[k]? = some x ∧ tStep.at w [.int .i64 x.1, .bool x.2.1.1.1, .slice a2 n2 c2, .slice a3 n3 c3, .bool x.2.2.1.1, .slice a5 n5 c5, .slice a6 n6 c6] x ∧ w.cell? ⟨b, off + k * 7, none⟩ = some (.int .i64 x.1) ∧ w.cell? ⟨b, off + k * 7 + 1, none⟩ = some (.bool x.2.1.1.1) ∧ w.cell? ⟨b, off + k * 7 + 2, none⟩ = some (.slice a2 n2 c2) ∧ w.cell? ⟨b, off + k * 7 + 3, none⟩ = some (.slice a3 n3 c3) ∧ w.cell? ⟨b, off + k * 7 + 4, none⟩ = some (.bool x.2.2.1.1) ∧ w.cell? ⟨b, off + k * 7 + 5, none⟩ = some (.slice a5 n5 c5) ∧ w.cell? ⟨b, off + k * 7 + 6, none⟩ = some (.slice a6 n6 c6) := by
  obtain ⟨x, hx⟩ : ∃ x, l[k]? = some x := ⟨_, List.getElem?_eq_getElem hk⟩
  obtain ⟨b, off, c, rfl, hb, hc, hv⟩ := sl_el h hx
  obtain ⟨a2, n2, c2, a3, n3, c3, a5, n5, c5, a6, n6, c6, rfl⟩ := sh_Step hc
  exact ⟨b, off, x, a2, n2, c2, a3, n3, c3, a5, n5, c5, a6, n6, c6, rfl, hb, hx, hc, hv 0 _ rfl, hv 1 _ rfl, hv 2 _ rfl, hv 3 _ rfl, hv 4 _ rfl, hv 5 _ rfl, hv 6 _ rfl⟩
abbrev tStepS := tSlice tStep
def wStepS (l : List (QStep)) : Nat := l.length + wsum wStep l
abbrev QPlacement := Int × QP
abbrev tPlacement : Ty QPlacement := tProd tInt (tPoint)
def wPlacement (x : QPlacement) : Nat := wPoint x.2
theorem sh_Placement {w : World} {cs : List Value} {x : QPlacement} (h : tPlacement.at w cs x) : ∃ (a2 : Option Addr) (n2 : Nat) (c2 : Nat) (a3 : Option Addr) (n3 : Nat) (c3 : Nat) (a5 : Option Addr) (n5 : Nat) (c5 : Nat) (a6 : Option Addr) (n6 : Nat) (c6 : Nat), cs = [.int .i64 x.1, .bool x.2.1.1.1, .slice a2 n2 c2, .slice a3 n3 c3, .bool x.2.2.1.1, .slice a5 n5 c5, .slice a6 n6 c6] := by
  obtain ⟨c0, d0, rfl, h0, e0⟩ := at_prod h
  have h1 := e0; clear e0
  obtain rfl := sh_int h0
  obtain ⟨z1a1, z1n1, z1c1, z1a2, z1n2, z1c2, z1a4, z1n4, z1c4, z1a5, z1n5, z1c5, rfl⟩ := sh_Point h1
  exact ⟨_, _, _, _, _, _, _, _, _, _, _, _, rfl⟩
theorem el_Placement {w : World} {ao : Option Addr} {n cap : Nat} {l : List (QPlacement)} (h : (tSlice tPlacement).at w [.slice ao n cap] l) {k : Nat} (hk : k < l.length) :
    ∃ (b off : Nat) (x : QPlacement) (a2 : Option Addr) (n2 : Nat) (c2 : Nat) (a3 : Option Addr) (n3 : Nat) (c3 : Nat) (a5 : Option Addr) (n5 : Nat) (c5 : Nat) (a6 : Option Addr) (n6 : Nat) (c6 : Nat), ao = some ⟨b, off, none⟩ ∧ b < w.heap.size ∧ l[k]? = some x ∧ tPlacement.at w [.int .i64 x.1, .bool x.2.1.1.1, .slice a2 n2 c2, .slice a3 n3 c3, .bool x.2.2.1.1, .slice a5 n5 c5, .slice a6 n6 c6] x ∧ w.cell? ⟨b, off + k * 7, none⟩ = some (.int .i64 x.1) ∧ w.cell? ⟨b, off + k * 7 + 1, none⟩ = some (.bool x.2.1.1.1) ∧ w.cell? ⟨b, off + k * 7 + 2, none⟩ = some (.slice a2 n2 c2) ∧ w.cell? ⟨b, off + k * 7 + 3, none⟩ = some (.slice a3 n3 c3) ∧ w.cell? ⟨b, off + k * 7 + 4, none⟩ = some (.bool x.2.2.1.1) ∧ w.cell? ⟨b, off + k * 7 + 5, none⟩ = some (.slice a5 n5 c5) ∧ w.cell? ⟨b, off + k * 7 + 6, none⟩ = some (.slice a6 n6 c6) := by
  obtain ⟨x, hx⟩ : ∃ x, l[k]? = some x := ⟨_, List.getElem?_eq_getElem hk⟩
  obtain ⟨b, off, c, rfl, hb, hc, hv⟩ := sl_el h hx
  obtain ⟨a2, n2, c2, a3, n3, c3, a5, n5, c5, a6, n6, c6, rfl⟩ := sh_Placement hc
  exact ⟨b, off, x, a2, n2, c2, a3, n3, c3, a5, n5, c5, a6, n6, c6, rfl, hb, hx, hc, hv 0 _ rfl, hv 1 _ rfl, hv 2 _ rfl, hv 3 _ rfl, hv 4 _ rfl, hv 5 _ rfl, hv 6 _ rfl⟩
abbrev QCell := QR × QR × QR × QR × QR × QR
abbrev tCell : Ty QCell := tProd tRat (tProd tRat (tProd tRat (tProd tRat (tProd tRat (tRat)))))
def wCell (x : QCell) : Nat := wRat x.1 + wRat x.2.1 + wRat x.2.2.1 + wRat x.2.2.2.1 + wRat x.2.2.2.2.1 + wRat x.2.2.2.2.2
theorem sh_Cell {w : World} {cs : List Value} {x : QCell} (h : tCell.at w cs x) : ∃ (a1 : Option Addr) (n1 : Nat) (c1 : Nat) (a2 : Option Addr) (n2 : Nat) (c2 : Nat) (a4 : Option Addr) (n4 : Nat) (c4 : Nat) (a5 : Option Addr) (n5 : Nat) (c5 : Nat) (a7 : Option Addr) (n7 : Nat) (c7 : Nat) (a8 : Option Addr) (n8 : Nat) (c8 : Nat) (a10 : Option Addr) (n10 : Nat) (c10 : Nat) (a11 : Option Addr) (n11 : Nat) (c11 : Nat) (a13 : Option Addr) (n13 : Nat) (c13 : Nat) (a14 : Option Addr) (n14 : Nat) (c14 : Nat) (a16 : Option Addr) (n16 : Nat) (c16 : Nat) (a17 : Option Addr) (n17 : Nat) (c17 : Nat), cs = [.bool x.1.1.1, .slice a1 n1 c1, .slice a2 n2 c2, .bool x.2.1.1.1, .slice a4 n4 c4, .slice a5 n5 c5, .bool x.2.2.1.1.1, .slice a7 n7 c7, .slice a8 n8 c8, .bool x.2.2.2.1.1.1, .slice a10 n10 c10, .slice a11 n11 c11, .bool x.2.2.2.2.1.1.1, .slice a13 n13 c13, .slice a14 n14 c14, .bool x.2.2.2.2.2.1.1, .slice a16 n16 c16, .slice a17 n17 c17] := by
  obtain ⟨c0, d0, rfl, h0, e0⟩ := at_prod h
  obtain ⟨c1, d1, rfl, h1, e1⟩ := at_prod e0
  obtain ⟨c2, d2, rfl, h2, e2⟩ := at_prod e1
  obtain ⟨c3, d3, rfl, h3, e3⟩ := at_prod e2
  obtain ⟨c4, d4, rfl, h4, e4⟩ := at_prod e3
  have h5 := e4; clear e4
  obtain ⟨z0a1, z0n1, z0c1, z0a2, z0n2, z0c2, rfl⟩ := sh_Rat h0
  obtain ⟨z1a1, z1n1, z1c1, z1a2, z1n2, z1c2, rfl⟩ := sh_Rat h1
  obtain ⟨z2a1, z2n1, z2c1, z2a2, z2n2, z2c2, rfl⟩ := sh_Rat h2
  obtain ⟨z3a1, z3n1, z3c1, z3a2, z3n2, z3c2, rfl⟩ := sh_Rat h3
  obtain ⟨z4a1, z4n1, z4c1, z4a2, z4n2, z4c2, rfl⟩ := sh_Rat h4
  obtain ⟨z5a1, z5n1, z5c1, z5a2, z5n2, z5c2, rfl⟩ := sh_Rat h5
  exact ⟨_, _, _, _, _, _, _, _, _, _, _, _, _, _, _, _, _, _, _, _, _, _, _, _, _, _, _, _, _, _, _, _, _, _, _, _, rfl⟩
theorem el_Cell {w : World} {ao : Option Addr} {n cap : Nat} {l : List (QCell)} (h : (tSlice tCell).at w [.slice ao n cap] l) {k : Nat} (hk : k < l.length) :
    ∃ (b off : Nat) (x : QCell) (a1 : Option Addr) (n1 : Nat) (c1 : Nat) (a2 : Option Addr) (n2 : Nat) (c2 : Nat) (a4 : Option Addr) (n4 : Nat) (c4 : Nat) (a5 : Option Addr) (n5 : Nat) (c5 : Nat) (a7 : Option Addr) (n7 : Nat) (c7 : Nat) (a8 : Option Addr) (n8 : Nat) (c8 : Nat) (a10 : Option Addr) (n10 : Nat) (c10 : Nat) (a11 : Option Addr) (n11 : Nat) (c11 : Nat) (a13 : Option Addr) (n13 : Nat) (c13 : Nat) (a14 : Option Addr) (n14 : Nat) (c14 : Nat) (a16 : Option Addr) (n16 : Nat) (c16 : Nat) (a17 : Option Addr) (n17 : Nat) (c17 : Nat), ao = some ⟨b, off, none⟩ ∧ b < w.heap.size ∧ l[k]? = some x ∧ tCell.at w [.bool x.1.1.1, .slice a1 n1 c1, .slice a2 n2 c2, .bool x.2.1.1.1, .slice a4 n4 c4, .slice a5 n5 c5, .bool x.2.2.1.1.1, .slice a7 n7 c7, .slice a8 n8 c8, .bool x.2.2.2.1.1.1, .slice a10 n10 c10, .slice a11 n11 c11, .bool x.2.2.2.2.1.1.1, .slice a13 n13 c13, .slice a14 n14 c14, .bool x.2.2.2.2.2.1.1, .slice a16 n16 c16, .slice a17 n17 c17] x ∧ w.cell? ⟨b, off + k * 18, none⟩ = some (.bool x.1.1.1) ∧ w.cell? ⟨b, off + k * 18 + 1, none⟩ = some (.slice a1 n1 c1) ∧ w.cell? ⟨b, off + k * 18 + 2, none⟩ = some (.slice a2 n2 c2) ∧ w.cell? ⟨b, off + k * 18 + 3, none⟩ = some (.bool x.2.1.1.1) ∧ w.cell? ⟨b, off + k * 18 + 4, none⟩ = some (.slice a4 n4 c4) ∧ w.cell? ⟨b, off + k * 18 + 5, none⟩ = some (.slice a5 n5 c5) ∧ w.cell? ⟨b, off + k * 18 + 6, none⟩ = some (.bool x.2.2.1.1.1) ∧ w.cell? ⟨b, off + k * 18 + 7, none⟩ = some (.slice a7 n7 c7) ∧ w.cell? ⟨b, off + k * 18 + 8, none⟩ = some (.slice a8 n8 c8) ∧ w.cell? ⟨b, off + k * 18 + 9, none⟩ = some (.bool x.2.2.2.1.1.1) ∧ w.cell? ⟨b, off + k * 18 + 10, none⟩ = some (.slice a10 n10 c10) ∧ w.cell? ⟨b, off + k * 18 + 11, none⟩ = some (.slice a11 n11 c11) ∧ w.cell? ⟨b, off + k * 18 + 12, none⟩ = some (.bool x.2.2.2.2.1.1.1) ∧ w.cell? ⟨b, off + k * 18 + 13, none⟩ = some (.slice a13 n13 c13) ∧ w.cell? ⟨b, off + k * 18 + 14, none⟩ = some (.slice a14 n14 c14) ∧ w.cell? ⟨b, off + k * 18 + 15, none⟩ = some (.bool x.2.2.2.2.2.1.1) ∧ w.cell? ⟨b, off + k * 18 + 16, none⟩ = some (.slice a16 n16 c16) ∧ w.cell? ⟨b, off + k * 18 + 17, none⟩ = some (.slice a17 n17 c17) := by
  obtain ⟨x, hx⟩ : ∃ x, l[k]? = some x := ⟨_, List.getElem?_eq_getElem hk⟩
  obtain ⟨b, off, c, rfl, hb, hc, hv⟩ := sl_el h hx
  obtain ⟨a1, n1, c1, a2, n2, c2, a4, n4, c4, a5, n5, c5, a7, n7, c7, a8, n8, c8, a10, n10, c10, a11, n11, c11, a13, n13, c13, a14, n14, c14, a16, n16, c16, a17, n17, c17, rfl⟩ := sh_Cell hc
  exact ⟨b, off, x, a1, n1, c1, a2, n2, c2, a4, n4, c4, a5, n5, c5, a7, n7, c7, a8, n8, c8, a10, n10, c10, a11, n11, c11, a13, n13, c13, a14, n14, c14, a16, n16, c16, a17, n17, c17, rfl, hb, hx, hc, hv 0 _ rfl, hv 1 _ rfl, hv 2 _ rfl, hv 3 _ rfl, hv 4 _ rfl, hv 5 _ rfl, hv 6 _ rfl, hv 7 _ rfl, hv 8 _ rfl, hv 9 _ rfl, hv 10 _ rfl, hv 11 _ rfl, hv 12 _ rfl, hv 13 _ rfl, hv 14 _ rfl, hv 15 _ rfl, hv 16 _ rfl, hv 17 _ rfl⟩
abbrev tCellS := tSlice tCell
def wCellS (l : List (QCell)) : Nat := l.length + wsum wCell l
abbrev QWall := QR × QR × QR
abbrev tWall : Ty QWall := tProd tRat (tProd tRat (tRat))
def wWall (x : QWall) : Nat := wRat x.1 + wRat x.2.1 + wRat x.2.2
theorem sh_Wall {w : World} {cs : List Value} {x : QWall} (h : tWall.at w cs x) : ∃ (a1 : Option Addr) (n1 : Nat) (c1 : Nat) (a2 : Option Addr) (n2 : Nat) (c2 : Nat) (a4 : Option Addr) (n4 : Nat) (c4 : Nat) (a5 : Option Addr) (n5 : Nat) (c5 : Nat) (a7 : Option Addr) (n7 : Nat) (c7 : Nat) (a8 : Option Addr) (n8 : Nat) (c8 : Nat), cs = [.bool x.1.1.1, .slice a1 n1 c1, .slice a2 n2 c2, .bool x.2.1.1.1, .slice a4 n4 c4, .slice a5 n5 c5, .bool x.2.2.1.1, .slice a7 n7 c7, .slice a8 n8 c8] := by
  obtain ⟨c0, d0, rfl, h0, e0⟩ := at_prod h
  obtain ⟨c1, d1, rfl, h1, e1⟩ := at_prod e0
  have h2 := e1; clear e1
  obtain ⟨z0a1, z0n1, z0c1, z0a2, z0n2, z0c2, rfl⟩ := sh_Rat h0
  obtain ⟨z1a1, z1n1, z1c1, z1a2, z1n2, z1c2, rfl⟩ := sh_Rat h1
  obtain ⟨z2a1, z2n1, z2c1, z2a2, z2n2, z2c2, rfl⟩ := sh_Rat h2
  exact ⟨_, _, _, _, _, _, _, _, _, _, _, _, _, _, _, _, _, _, rfl⟩
theorem el_Wall {w : World} {ao : Option Addr} {n cap : Nat} {l : List (QWall)} (h : (tSlice tWall).at w [.slice ao n cap] l) {k : Nat} (hk : k < l.length) :
    ∃ (b off : Nat) (x : QWall) (a1 : Option Addr) (n1 : Nat) (c1 : Nat) (a2 : Option Addr) (n2 : Nat) (c2 : Nat) (a4 : Option Addr) (n4 : Nat) (c4 : Nat) (a5 : Option Addr) (n5 : Nat) (c5 : Nat) (a7 : Option Addr) (n7 : Nat) (c7 : Nat) (a8 : Option Addr) (n8 : Nat) (c8 : Nat), ao = some ⟨b, off, none⟩ ∧ b < w.heap.size ∧ l[k]? = some x ∧ tWall.at w [.bool x.1.1.1, .slice a1 n1 c1, .slice a2 n2 c2, .bool x.2.1.1.1, .slice a4 n4 c4, .slice a5 n5 c5, .bool x.2.2.1.1, .slice a7 n7 c7, .slice a8 n8 c8] x ∧ w.cell? ⟨b, off + k * 9, none⟩ = some (.bool x.1.1.1) ∧ w.cell? ⟨b, off + k * 9 + 1, none⟩ = some (.slice a1 n1 c1) ∧ w.cell? ⟨b, off + k * 9 + 2, none⟩ = some (.slice a2 n2 c2) ∧ w.cell? ⟨b, off + k * 9 + 3, none⟩ = some (.bool x.2.1.1.1) ∧ w.cell? ⟨b, off + k * 9 + 4, none⟩ = some (.slice a4 n4 c4) ∧ w.cell? ⟨b, off + k * 9 + 5, none⟩ = some (.slice a5 n5 c5) ∧ w.cell? ⟨b, off + k * 9 + 6, none⟩ = some (.bool x.2.2.1.1) ∧ w.cell? ⟨b, off + k * 9 + 7, none⟩ = some (.slice a7 n7 c7) ∧ w.cell? ⟨b, off + k * 9 + 8, none⟩ = some (.slice a8 n8 c8) := by
  obtain ⟨x, hx⟩ : ∃ x, l[k]? = some x := ⟨_, List.getElem?_eq_getElem hk⟩
  obtain ⟨b, off, c, rfl, hb, hc, hv⟩ := sl_el h hx
  obtain ⟨a1, n1, c1, a2, n2, c2, a4, n4, c4, a5, n5, c5, a7, n7, c7, a8, n8, c8, rfl⟩ := sh_Wall hc
  exact ⟨b, off, x, a1, n1, c1, a2, n2, c2, a4, n4, c4, a5, n5, c5, a7, n7, c7, a8, n8, c8, rfl, hb, hx, hc, hv 0 _ rfl, hv 1 _ rfl, hv 2 _ rfl, hv 3 _ rfl, hv 4 _ rfl, hv 5 _ rfl, hv 6 _ rfl, hv 7 _ rfl, hv 8 _ rfl⟩
abbrev tWallS := tSlice tWall
def wWallS (l : List (QWall)) : Nat := l.length + wsum wWall l
abbrev QDoor := Int × Int
abbrev tDoor : Ty QDoor := tProd tInt (tInt)
def fDoor : Flat tDoor := fProd fInt (fInt)
theorem sh_Door {w : World} {cs : List Value} {x : QDoor} (h : tDoor.at w cs x) : cs = [.int .i64 x.1, .int .i64 x.2] := by
  obtain ⟨c0, d0, rfl, h0, e0⟩ := at_prod h
  have h1 := e0; clear e0
  obtain rfl := sh_int h0
  obtain rfl := sh_int h1
  exact rfl
theorem el_Door {w : World} {ao : Option Addr} {n cap : Nat} {l : List (QDoor)} (h : (tSlice tDoor).at w [.slice ao n cap] l) {k : Nat} (hk : k < l.length) :
    ∃ (b off : Nat) (x : QDoor) , ao = some ⟨b, off, none⟩ ∧ b < w.heap.size ∧ l[k]? = some x ∧ tDoor.at w [.int .i64 x.1, .int .i64 x.2] x ∧ w.cell? ⟨b, off + k * 2, none⟩ = some (.int .i64 x.1) ∧ w.cell? ⟨b, off + k * 2 + 1, none⟩ = some (.int .i64 x.2) := by
  obtain ⟨x, hx⟩ : ∃ x, l[k]? = some x := ⟨_, List.getElem?_eq_getElem hk⟩
  obtain ⟨b, off, c, rfl, hb, hc, hv⟩ := sl_el h hx
  obtain rfl := sh_Door hc
  exact ⟨b, off, x, rfl, hb, hx, hc, hv 0 _ rfl, hv 1 _ rfl⟩
abbrev tDoorS := tSlice tDoor
def wDoorS (l : List (QDoor)) : Nat := l.length
abbrev QSlice := Int × Bool × QBox × (List (List QV)) × (List (QCell)) × (List (QWall)) × (List (QDoor)) × (List Int)
abbrev tSlc : Ty QSlice := tProd tInt (tProd tBool (tProd tBox (tProd tVecSS (tProd tCellS (tProd tWallS (tProd tDoorS (tInts)))))))
def wSlice (x : QSlice) : Nat := wVecSS x.2.2.2.1 + wCellS x.2.2.2.2.1 + wWallS x.2.2.2.2.2.1 + wDoorS x.2.2.2.2.2.2.1 + wIntS x.2.2.2.2.2.2.2
theorem sh_Slice {w : World} {cs : List Value} {x : QSlice} (h : tSlc.at w cs x) : ∃ (a6 : Option Addr) (n6 : Nat) (c6 : Nat) (a7 : Option Addr) (n7 : Nat) (c7 : Nat) (a8 : Option Addr) (n8 : Nat) (c8 : Nat) (a9 : Option Addr) (n9 : Nat) (c9 : Nat) (a10 : Option Addr) (n10 : Nat) (c10 : Nat), cs = [.int .i64 x.1, .bool x.2.1, .int .i64 x.2.2.1.1.1, .int .i64 x.2.2.1.1.2, .int .i64 x.2.2.1.2.1, .int .i64 x.2.2.1.2.2, .slice a6 n6 c6, .slice a7 n7 c7, .slice a8 n8 c8, .slice a9 n9 c9, .slice a10 n10 c10] := by
  obtain ⟨c0, d0, rfl, h0, e0⟩ := at_prod h
  obtain ⟨c1, d1, rfl, h1, e1⟩ := at_prod e0
  obtain ⟨c2, d2, rfl, h2, e2⟩ := at_prod e1
  obtain ⟨c3, d3, rfl, h3, e3⟩ := at_prod e2
  obtain ⟨c4, d4, rfl, h4, e4⟩ := at_prod e3
  obtain ⟨c5, d5, rfl, h5, e5⟩ := at_prod e4
  obtain ⟨c6, d6, rfl, h6, e6⟩ := at_prod e5
  have h7 := e6; clear e6
  obtain rfl := sh_int h0
  obtain rfl := sh_bool h1
  obtain rfl := sh_Box h2
  obtain ⟨z3a0, z3n0, z3c0, rfl⟩ := sh_slice h3
  obtain ⟨z4a0, z4n0, z4c0, rfl⟩ := sh_slice h4
  obtain ⟨z5a0, z5n0, z5c0, rfl⟩ := sh_slice h5
  obtain ⟨z6a0, z6n0, z6c0, rfl⟩ := sh_slice h6
  obtain ⟨z7a0, z7n0, z7c0, rfl⟩ := sh_slice h7
  exact ⟨_, _, _, _, _, _, _, _, _, _, _, _, _, _, _, rfl⟩
theorem el_Slice {w : World} {ao : Option Addr} {n cap : Nat} {l : List (QSlice)} (h : (tSlice tSlc).at w [.slice ao n cap] l) {k : Nat} (hk : k < l.length) :
    ∃ (b off : Nat) (x : QSlice) (a6 : Option Addr) (n6 : Nat) (c6 : Nat) (a7 : Option Addr) (n7 : Nat) (c7 : Nat) (a8 : Option Addr) (n8 : Nat) (c8 : Nat) (a9 : Option Addr) (n9 : Nat) (c9 : Nat) (a10 : Option Addr) (n10 : Nat) (c10 : Nat), ao = some ⟨b, off, none⟩ ∧ b < w.heap.size ∧ l[k]? = some x ∧ tSlc.at w [.int .i64 x.1, .bool x.2.1, .int .i64 x.2.2.1.1.1, .int .i64 x.2.2.1.1.2, .int .i64 x.2.2.1.2.1, .int .i64 x.2.2.1.2.2, .slice a6 n6 c6, .slice a7 n7 c7, .slice a8 n8 c8, .slice a9 n9 c9, .slice a10 n10 c10] x ∧ w.cell? ⟨b, off + k * 11, none⟩ = some (.int .i64 x.1) ∧ w.cell? ⟨b, off + k * 11 + 1, none⟩ = some (.bool x.2.1) ∧ w.cell? ⟨b, off + k * 11 + 2, none⟩ = some (.int .i64 x.2.2.1.1.1) ∧ w.cell? ⟨b, off + k * 11 + 3, none⟩ = some (.int .i64 x.2.2.1.1.2) ∧ w.cell? ⟨b, off + k * 11 + 4, none⟩ = some (.int .i64 x.2.2.1.2.1) ∧ w.cell? ⟨b, off + k * 11 + 5, none⟩ = some (.int .i64 x.2.2.1.2.2) ∧ w.cell? ⟨b, off + k * 11 + 6, none⟩ = some (.slice a6 n6 c6) ∧ w.cell? ⟨b, off + k * 11 + 7, none⟩ = some (.slice a7 n7 c7) ∧ w.cell? ⟨b, off + k * 11 + 8, none⟩ = some (.slice a8 n8 c8) ∧ w.cell? ⟨b, off + k * 11 + 9, none⟩ = some (.slice a9 n9 c9) ∧ w.cell? ⟨b, off + k * 11 + 10, none⟩ = some (.slice a10 n10 c10) := by
  obtain ⟨x, hx⟩ : ∃ x, l[k]? = some x := ⟨_, List.getElem?_eq_getElem hk⟩
  obtain ⟨b, off, c, rfl, hb, hc, hv⟩ := sl_el h hx
  obtain ⟨a6, n6, c6, a7, n7, c7, a8, n8, c8, a9, n9, c9, a10, n10, c10, rfl⟩ := sh_Slice hc
  exact ⟨b, off, x, a6, n6, c6, a7, n7, c7, a8, n8, c8, a9, n9, c9, a10, n10, c10, rfl, hb, hx, hc, hv 0 _ rfl, hv 1 _ rfl, hv 2 _ rfl, hv 3 _ rfl, hv 4 _ rfl, hv 5 _ rfl, hv 6 _ rfl, hv 7 _ rfl, hv 8 _ rfl, hv 9 _ rfl, hv 10 _ rfl⟩
abbrev tSlcS := tSlice tSlc
def wSliceS (l : List (QSlice)) : Nat := l.length + wsum wSlice l
abbrev QRoad := QScene × (List (QSlice)) × (List Int) × (List (List Int))
abbrev tRoad : Ty QRoad := tProd tScene (tProd tSlcS (tProd tInts (tIntSS)))
def wRoad (x : QRoad) : Nat := wScene x.1 + wSliceS x.2.1 + wIntS x.2.2.1 + wIntSS x.2.2.2
theorem sh_Road {w : World} {cs : List Value} {x : QRoad} (h : tRoad.at w cs x) : ∃ (a4 : Option Addr) (n4 : Nat) (c4 : Nat) (a5 : Option Addr) (n5 : Nat) (c5 : Nat) (a6 : Option Addr) (n6 : Nat) (c6 : Nat) (a7 : Option Addr) (n7 : Nat) (c7 : Nat) (a8 : Option Addr) (n8 : Nat) (c8 : Nat) (a9 : Option Addr) (n9 : Nat) (c9 : Nat), cs = [.int .i64 x.1.1.1, .int .i64 x.1.1.2, .int .i64 x.1.2.1.1, .int .i64 x.1.2.1.2, .slice a4 n4 c4, .slice a5 n5 c5, .slice a6 n6 c6, .slice a7 n7 c7, .slice a8 n8 c8, .slice a9 n9 c9] := by
  obtain ⟨c0, d0, rfl, h0, e0⟩ := at_prod h
  obtain ⟨c1, d1, rfl, h1, e1⟩ := at_prod e0
  obtain ⟨c2, d2, rfl, h2, e2⟩ := at_prod e1
  have h3 := e2; clear e2
  obtain ⟨z0a4, z0n4, z0c4, z0a5, z0n5, z0c5, z0a6, z0n6, z0c6, rfl⟩ := sh_Scene h0
  obtain ⟨z1a0, z1n0, z1c0, rfl⟩ := sh_slice h1
  obtain ⟨z2a0, z2n0, z2c0, rfl⟩ := sh_slice h2
  obtain ⟨z3a0, z3n0, z3c0, rfl⟩ := sh_slice h3
  exact ⟨_, _, _, _, _, _, _, _, _, _, _, _, _, _, _, _, _, _, rfl⟩
theorem el_Road {w : World} {ao : Option Addr} {n cap : Nat} {l : List (QRoad)} (h : (tSlice tRoad).at w [.slice ao n cap] l) {k : Nat} (hk : k < l.length) :
    ∃ (b off : Nat) (x : QRoad) (a4 : Option Addr) (n4 : Nat) (c4 : Nat) (a5 : Option Addr) (n5 : Nat) (c5 : Nat) (a6 : Option Addr) (n6 : Nat) (c6 : Nat) (a7 : Option Addr) (n7 : Nat) (c7 : Nat) (a8 : Option Addr) (n8 : Nat) (c8 : Nat) (a9 : Option Addr) (n9 : Nat) (c9 : Nat), ao = some ⟨b, off, none⟩ ∧ b < w.heap.size ∧ l[k]? = some x ∧ tRoad.at w [.int .i64 x.1.1.1, .int .i64 x.1.1.2, .int .i64 x.1.2.1.1, .int .i64 x.1.2.1.2, .slice a4 n4 c4, .slice a5 n5 c5, .slice a6 n6 c6, .slice a7 n7 c7, .slice a8 n8 c8, .slice a9 n9 c9] x ∧ w.cell? ⟨b, off + k * 10, none⟩ = some (.int .i64 x.1.1.1) ∧ w.cell? ⟨b, off + k * 10 + 1, none⟩ = some (.int .i64 x.1.1.2) ∧ w.cell? ⟨b, off + k * 10 + 2, none⟩ = some (.int .i64 x.1.2.1.1) ∧ w.cell? ⟨b, off + k * 10 + 3, none⟩ = some (.int .i64 x.1.2.1.2) ∧ w.cell? ⟨b, off + k * 10 + 4, none⟩ = some (.slice a4 n4 c4) ∧ w.cell? ⟨b, off + k * 10 + 5, none⟩ = some (.slice a5 n5 c5) ∧ w.cell? ⟨b, off + k * 10 + 6, none⟩ = some (.slice a6 n6 c6) ∧ w.cell? ⟨b, off + k * 10 + 7, none⟩ = some (.slice a7 n7 c7) ∧ w.cell? ⟨b, off + k * 10 + 8, none⟩ = some (.slice a8 n8 c8) ∧ w.cell? ⟨b, off + k * 10 + 9, none⟩ = some (.slice a9 n9 c9) := by
  obtain ⟨x, hx⟩ : ∃ x, l[k]? = some x := ⟨_, List.getElem?_eq_getElem hk⟩
  obtain ⟨b, off, c, rfl, hb, hc, hv⟩ := sl_el h hx
  obtain ⟨a4, n4, c4, a5, n5, c5, a6, n6, c6, a7, n7, c7, a8, n8, c8, a9, n9, c9, rfl⟩ := sh_Road hc
  exact ⟨b, off, x, a4, n4, c4, a5, n5, c5, a6, n6, c6, a7, n7, c7, a8, n8, c8, a9, n9, c9, rfl, hb, hx, hc, hv 0 _ rfl, hv 1 _ rfl, hv 2 _ rfl, hv 3 _ rfl, hv 4 _ rfl, hv 5 _ rfl, hv 6 _ rfl, hv 7 _ rfl, hv 8 _ rfl, hv 9 _ rfl⟩
end Go.Proofs.YtnbefpfijaimjaaGreatDoor
