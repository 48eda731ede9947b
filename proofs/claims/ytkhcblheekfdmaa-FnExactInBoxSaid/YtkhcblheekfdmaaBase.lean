/- How the cells of Go values read as plain data (ints, bools, lists, pairs), which blocks such a reading passes through, and what a value in new memory owns. It speaks of no program. -/
import Derived.WalkKit
import Derived.ProofKit
import Derived.WalkLawsBesides
import Derived.WalkSpells
import Derived.Lib.Hide
namespace Go.Proofs.Ytkhcblheekfdmaa
open Go.RowKit

def In64 (n : Int) : Prop := (Lit.int .i64 n).wf = true
theorem In64.mk {n : Int} (h : -9223372036854775808 ≤ n ∧ n ≤ 9223372036854775807) : In64 n := WalkArith.wf_i64 h
theorem In64.small {n : Int} (h : -1000000000000000000 ≤ n ∧ n ≤ 1000000000000000000) : In64 n := In64.mk (by omega)
theorem In64.out {n : Int} (h : In64 n) : -9223372036854775808 ≤ n ∧ n ≤ 9223372036854775807 := by
  unfold In64 at h
  simp only [Lit.wf, Bool.and_eq_true, decide_eq_true_eq] at h
  exact h

/-- A kind of data: how many cells it takes, how cells read as it (through blocks of which 'p' holds), and how cells own it (the blocks listed). -/
structure Ty (α : Type) where
  size : Nat
  rd : (Nat → Prop) → World → List Value → α → Prop
  own : List Nat → World → List Value → α → Prop
  len : ∀ {p w cs x}, rd p w cs x → cs.length = size
  one : ∀ {p w cs x}, rd p w cs x → ∀ u ∈ cs, u.oneCell' = true
  keep : ∀ {p q : Nat → Prop} {w w' cs x}, rd p w cs x → (∀ k, p k → k < w.heap.size → q k ∧ w'.heap[k]? = w.heap[k]? ∧ k < w'.heap.size) → rd q w' cs x
  own_rd : ∀ {bs w cs x}, own bs w cs x → rd (fun k => k ∈ bs) w cs x
  own_keep : ∀ {bs w w' cs x}, own bs w cs x → (∀ k, k ∈ bs → w'.heap[k]? = w.heap[k]?) → own bs w' cs x
  own_lt : ∀ {bs w cs x}, own bs w cs x → ∀ k ∈ bs, k < w.heap.size

variable {α β : Type}

def tInt : Ty Int where
  size := 1
  rd _ _ cs n := cs = [.int .i64 n] ∧ In64 n
  own bs _ cs n := bs = [] ∧ cs = [.int .i64 n] ∧ In64 n
  len := by rintro _ _ _ _ ⟨rfl, _⟩; rfl
  one := by rintro _ _ _ _ ⟨rfl, _⟩ u hu; simp at hu; subst hu; rfl
  keep := fun h _ => h
  own_rd := fun h => h.2
  own_keep := fun h _ => h
  own_lt := by rintro _ _ _ _ ⟨rfl, _⟩ k hk; cases hk

def tBool : Ty Bool where
  size := 1
  rd _ _ cs b := cs = [.bool b]
  own bs _ cs b := bs = [] ∧ cs = [.bool b]
  len := by rintro _ _ _ _ rfl; rfl
  one := by rintro _ _ _ _ rfl u hu; simp at hu; subst hu; rfl
  keep := fun h _ => h
  own_rd := fun h => h.2
  own_keep := fun h _ => h
  own_lt := by rintro _ _ _ _ ⟨rfl, _⟩ k hk; cases hk

def tProd (A : Ty α) (B : Ty β) : Ty (α × β) where
  size := A.size + B.size
  rd p w cs x := ∃ c1 c2, cs = c1 ++ c2 ∧ A.rd p w c1 x.1 ∧ B.rd p w c2 x.2
  own bs w cs x := ∃ b1 b2 c1 c2, bs = b1 ++ b2 ∧ cs = c1 ++ c2 ∧ A.own b1 w c1 x.1 ∧ B.own b2 w c2 x.2
  len := by rintro _ _ _ _ ⟨c1, c2, rfl, h1, h2⟩; rw [List.length_append, A.len h1, B.len h2]
  one := by
    rintro _ _ _ _ ⟨c1, c2, rfl, h1, h2⟩ u hu
    rcases List.mem_append.1 hu with h | h
    · exact A.one h1 u h
    · exact B.one h2 u h
  keep := by rintro _ _ _ _ _ _ ⟨c1, c2, rfl, h1, h2⟩ h; exact ⟨c1, c2, rfl, A.keep h1 h, B.keep h2 h⟩
  own_rd := by
    rintro bs w _ _ ⟨b1, b2, c1, c2, rfl, rfl, h1, h2⟩
    refine ⟨c1, c2, rfl, A.keep (A.own_rd h1) ?_, B.keep (B.own_rd h2) ?_⟩
    · intro k hk hl; exact ⟨List.mem_append.2 (.inl hk), rfl, hl⟩
    · intro k hk hl; exact ⟨List.mem_append.2 (.inr hk), rfl, hl⟩
  own_keep := by
    rintro _ _ _ _ _ ⟨b1, b2, c1, c2, rfl, rfl, h1, h2⟩ h
    exact ⟨b1, b2, c1, c2, rfl, rfl, A.own_keep h1 (fun k hk => h k (List.mem_append.2 (.inl hk))), B.own_keep h2 (fun k hk => h k (List.mem_append.2 (.inr hk)))⟩
  own_lt := by
    rintro _ _ _ _ ⟨b1, b2, c1, c2, rfl, rfl, h1, h2⟩ k hk
    rcases List.mem_append.1 hk with h | h
    · exact A.own_lt h1 k h
    · exact B.own_lt h2 k h

/-- The elements of a row at an address. -/
def Elems (S : Ty α) (p : Nat → Prop) (w : World) (b off : Nat) (l : List α) : Prop :=
  ∀ k x, l[k]? = some x → ∃ c, S.rd p w c x ∧ ∀ j v, c[j]? = some v → w.cell? ⟨b, off + k * S.size + j, none⟩ = some v

def slRd (S : Ty α) (p : Nat → Prop) (w : World) (cs : List Value) (l : List α) : Prop :=
  ∃ ao cap, cs = [.slice ao l.length cap] ∧ l.length ≤ cap ∧ cap ≤ maxLen ∧ (ao = none → cap = 0) ∧ (0 < l.length → ∃ b off, ao = some ⟨b, off, none⟩ ∧ p b ∧ b < w.heap.size ∧ Elems S p w b off l)

def slOwn (S : Ty α) (bs : List Nat) (w : World) (cs : List Value) (l : List α) : Prop :=
  ∃ ao cap, cs = [.slice ao l.length cap] ∧ l.length ≤ cap ∧ cap ≤ maxLen ∧ (ao = none → cap = 0) ∧
    ((l = [] ∧ bs = []) ∨ ∃ (g : Nat) (e : TypeId) (cur : Array Value) (bss : List (List Nat)), ao = some ⟨g, 0, none⟩ ∧ w.heap[g]? = some (.cells cur e (0, 0)) ∧ cur.size = cap * S.size ∧ bss.length = l.length ∧ bs = g :: bss.flatten ∧
      ∀ k x b, l[k]? = some x → bss[k]? = some b → S.own b w ((cur.toList.drop (k * S.size)).take S.size) x)

theorem heap_lt {w : World} {k : Nat} {o : Obj} (h : w.heap[k]? = some o) : k < w.heap.size := (Array.getElem?_eq_some_iff.1 h).1

theorem slOwn_rd {S : Ty α} {bs : List Nat} {w : World} {cs : List Value} {l : List α} (h : slOwn S bs w cs l) : slRd S (fun k => k ∈ bs) w cs l := by
  obtain ⟨ao, cap, rfl, h1, h2, h3, h4⟩ := h
  refine ⟨ao, cap, rfl, h1, h2, h3, fun hl => ?_⟩
  rcases h4 with ⟨rfl, _⟩ | ⟨g, e, cur, bss, rfl, hg, hs, hb, rfl, hx⟩
  · simp at hl
  refine ⟨g, 0, rfl, List.mem_cons_self, heap_lt hg, fun k x hk => ?_⟩
  have hkl : k < l.length := (List.getElem?_eq_some_iff.1 hk).1
  have hbk : bss[k]? = some (bss[k]'(by omega)) := List.getElem?_eq_getElem (by omega)
  have ho := hx k x _ hk hbk
  refine ⟨_, S.keep (S.own_rd ho) (fun j hj hlt => ⟨List.mem_cons_of_mem _ (List.mem_flatten.2 ⟨_, List.getElem_mem _, hj⟩), rfl, hlt⟩), fun j v hv => ?_⟩
  rw [cell_of_row w g _ cur e (0, 0) hg]
  rw [List.getElem?_take] at hv
  split at hv
  · rw [List.getElem?_drop] at hv
    simpa using hv
  · cases hv

theorem cell_heap {w w' : World} {b o : Nat} {v : Value} (h : w.cell? ⟨b, o, none⟩ = some v) (hk : w'.heap[b]? = w.heap[b]?) : w'.cell? ⟨b, o, none⟩ = some v :=
  (World.cell?_of_block (w := w) (a := ⟨b, o, none⟩) hk).trans h

theorem Elems.keep {S : Ty α} {p q : Nat → Prop} {w w' : World} {b off : Nat} {l : List α} (h : Elems S p w b off l) (hb : w'.heap[b]? = w.heap[b]?)
    (hk : ∀ k, p k → k < w.heap.size → q k ∧ w'.heap[k]? = w.heap[k]? ∧ k < w'.heap.size) : Elems S q w' b off l := fun k x hx => by
  obtain ⟨c, hc, hj⟩ := h k x hx
  exact ⟨c, S.keep hc hk, fun j v hv => cell_heap (hj j v hv) hb⟩

def tSlice (S : Ty α) : Ty (List α) where
  size := 1
  rd p w cs l := slRd S p w cs l
  own bs w cs l := slOwn S bs w cs l
  len := by rintro _ _ _ _ ⟨ao, cap, rfl, _⟩; rfl
  one := by rintro _ _ _ _ ⟨ao, cap, rfl, _⟩ u hu; simp at hu; subst hu; rfl
  keep := by
    rintro p q w w' _ _ ⟨ao, cap, rfl, h1, h2, h3, h4⟩ hk
    refine ⟨ao, cap, rfl, h1, h2, h3, fun hl => ?_⟩
    obtain ⟨b, off, rfl, hp, hlt, he⟩ := h4 hl
    obtain ⟨a1, a2, a3⟩ := hk b hp hlt
    exact ⟨b, off, rfl, a1, a3, he.keep a2 hk⟩
  own_rd := slOwn_rd
  own_keep := by
    rintro bs w w' _ _ ⟨ao, cap, rfl, h1, h2, h3, h4⟩ hk
    refine ⟨ao, cap, rfl, h1, h2, h3, ?_⟩
    rcases h4 with h4 | ⟨g, e, cur, bss, rfl, hg, hs, hb, rfl, hx⟩
    · exact .inl h4
    refine .inr ⟨g, e, cur, bss, rfl, (hk g List.mem_cons_self).trans hg, hs, hb, rfl, fun k x b hkx hkb => S.own_keep (hx k x b hkx hkb) (fun j hj => hk j (List.mem_cons_of_mem _ (List.mem_flatten.2 ⟨b, List.mem_of_getElem? hkb, hj⟩)))⟩
  own_lt := by
    rintro bs w _ l ⟨ao, cap, rfl, h1, h2, h3, h4⟩ k hk
    rcases h4 with ⟨_, rfl⟩ | ⟨g, e, cur, bss, rfl, hg, hs, hb, rfl, hx⟩
    · cases hk
    rcases List.mem_cons.1 hk with rfl | hk
    · exact heap_lt hg
    obtain ⟨b, hb1, hb2⟩ := List.mem_flatten.1 hk
    obtain ⟨i, hi, rfl⟩ := List.getElem_of_mem hb1
    have hil : i < l.length := by omega
    exact S.own_lt (hx i _ _ (List.getElem?_eq_getElem hil) (List.getElem?_eq_getElem hi)) k hb2

/-- Reads as x, whatever blocks it passes through. -/
def Ty.at (S : Ty α) (w : World) (cs : List Value) (x : α) : Prop := S.rd (fun _ => True) w cs x
theorem Ty.rd_at {S : Ty α} {p : Nat → Prop} {w : World} {cs : List Value} {x : α} (h : S.rd p w cs x) : S.at w cs x := S.keep h (fun _ _ hl => ⟨trivial, rfl, hl⟩)
/-- In new memory: owned, each block once, all blocks from B on. -/
def Ty.fresh (S : Ty α) (B : Nat) (w : World) (cs : List Value) (x : α) : Prop := ∃ bs, S.own bs w cs x ∧ bs.Nodup ∧ ∀ b ∈ bs, B ≤ b
theorem Ty.fresh_at {S : Ty α} {B : Nat} {w : World} {cs : List Value} {x : α} (h : S.fresh B w cs x) : S.at w cs x := by
  obtain ⟨bs, h, _⟩ := h
  exact Ty.rd_at (S.own_rd h)

/-- The world has turned at most in the blocks 'bs'. -/
structure Turns (bs : List Nat) (w w' : World) : Prop where
  os : w'.os = w.os
  tape : w'.tape = w.tape
  output : w'.output = w.output
  size : w.heap.size ≤ w'.heap.size
  block : ∀ k, k < w.heap.size → k ∉ bs → w'.heap[k]? = w.heap[k]?

/-- The world has at most new blocks. -/
def More (w w' : World) : Prop := Below w.heap.size w w'
theorem More.out {w w' : World} (h : More w w') : Below w.heap.size w w' := h
theorem More.os {w w' : World} (h : More w w') : w'.os = w.os := Below.os h
theorem More.tape {w w' : World} (h : More w w') : w'.tape = w.tape := Below.tape h
theorem More.output {w w' : World} (h : More w w') : w'.output = w.output := Below.output h
theorem More.size {w w' : World} (h : More w w') : w.heap.size ≤ w'.heap.size := Below.size h
theorem More.block {w w' : World} (h : More w w') : ∀ k, k < w.heap.size → w'.heap[k]? = w.heap[k]? := Below.block h
theorem More.refl (w : World) : More w w := Below.refl _ _
theorem More.trans {a b c : World} (h : More a b) (k : More b c) : More a c := Below.trans (Below.mono h (Nat.le_refl _)) (Below.mono k h.size)
theorem More.turns {a b : World} (h : More a b) (bs : List Nat) : Turns bs a b := ⟨h.os, h.tape, h.output, h.size, fun k hk _ => h.block k hk⟩
theorem Turns.more {a b : World} (h : Turns [] a b) : More a b := ⟨h.os, h.tape, h.output, h.size, fun k hk => h.block k hk (by simp)⟩
/-- All old cells and marks read as before. -/
theorem bcell {W w1 : World} (hb : More W w1) : (∀ b o, b < W.heap.size → w1.cell? ⟨b, o, none⟩ = W.cell? ⟨b, o, none⟩) ∧ (∀ b o, b < W.heap.size → w1.frozen? ⟨b, o, none⟩ = W.frozen? ⟨b, o, none⟩) :=
  ⟨fun b o h => Below.cell hb (p := ⟨b, o, none⟩) h, fun b o h => Below.frozen hb (p := ⟨b, o, none⟩) h⟩
theorem Turns.refl (bs : List Nat) (w : World) : Turns bs w w := ⟨rfl, rfl, rfl, Nat.le_refl _, fun _ _ _ => rfl⟩
theorem Turns.trans {bs : List Nat} {a b c : World} (h : Turns bs a b) (k : Turns bs b c) : Turns bs a c :=
  ⟨k.os.trans h.os, k.tape.trans h.tape, k.output.trans h.output, Nat.le_trans h.size k.size, fun i hi hn => (k.block i (Nat.lt_of_lt_of_le hi h.size) hn).trans (h.block i hi hn)⟩
theorem Turns.mono {bs cs : List Nat} {a b : World} (h : Turns bs a b) (hs : ∀ k ∈ bs, k ∈ cs) : Turns cs a b := ⟨h.os, h.tape, h.output, h.size, fun k hk hn => h.block k hk (fun e => hn (hs k e))⟩
theorem Turns.below {bs : List Nat} {B : Nat} {a b : World} (h : Turns bs a b) (hB : B ≤ a.heap.size) (hs : ∀ k ∈ bs, B ≤ k) : Below B a b :=
  ⟨h.os, h.tape, h.output, h.size, fun k hk => h.block k (by omega) (fun e => by have := hs k e; omega)⟩
theorem Turns.via {bs : List Nat} {a b c : World} (h : More b c) (k : Turns bs a b) : Turns bs a c := k.trans (h.turns bs)
theorem Turns.drew {bs : List Nat} {a w : World} (h : Turns bs a w) : Turns bs a w.drew := ⟨h.os, h.tape, h.output, h.size, h.block⟩
theorem Turns.drewN {bs : List Nat} {a w : World} (h : Turns bs a w) {n : Nat} : Turns bs a (w.drewN n) := ⟨h.os, h.tape, h.output, h.size, h.block⟩
theorem Turns.alloc {bs : List Nat} {a w : World} (h : Turns bs a w) (o : Obj) : Turns bs a (w.alloc o) :=
  h.trans ⟨rfl, rfl, rfl, by simp, fun k hk _ => Below.heap_alloc _ _ _ hk⟩
theorem Turns.setCell {bs : List Nat} {a w : World} (h : Turns bs a w) {p : Addr} (hp : p.block ∈ bs ∨ a.heap.size ≤ p.block) (u : Value) : Turns bs a (w.setCell p u) := by
  refine ⟨h.os, h.tape, h.output, by simpa [World.setCell] using h.size, fun k hk hn => ?_⟩
  rw [Below.heap_setCell _ _ _ _ ?_]
  · exact h.block k hk hn
  · rintro rfl
    rcases hp with hp | hp
    · exact hn hp
    · omega
theorem Turns.setCellR {a w : World} (h : Turns [] a w) {p : Addr} (hp : a.heap.size ≤ p.block) (u : Value) : Turns [] a (w.setCell p u) := h.setCell (.inr hp) u
theorem Turns.grown {bs : List Nat} {a w w' : World} {row : Option Nat} (h : Turns bs a w) (hg : w.grownBy w' row) (hr : ∀ k, row = some k → k ∈ bs ∨ a.heap.size ≤ k) : Turns bs a w' := by
  refine ⟨hg.os.trans h.os, hg.tape.trans h.tape, hg.output.trans h.output, Nat.le_trans h.size hg.size, fun k hk hn => ?_⟩
  rw [hg.block k (Nat.lt_of_lt_of_le hk h.size) ?_]
  · exact h.block k hk hn
  · intro e
    rcases hr k e.symm with h1 | h1
    · exact hn h1
    · omega

theorem More.turn {a b c : World} {bs : List Nat} (h : More a b) (t : Turns bs b c) (hb : ∀ k ∈ bs, a.heap.size ≤ k) : More a c := Below.trans h (t.below h.size hb)
theorem Ty.at_more {S : Ty α} {w w' : World} {cs : List Value} {x : α} (h : S.at w cs x) (hb : More w w') : S.at w' cs x :=
  S.keep h (fun k _ hl => ⟨trivial, hb.block k hl, Nat.lt_of_lt_of_le hl hb.size⟩)
/-- .. in every world that has kept what lies below B, B at least the old size. -/
theorem Ty.at_below {S : Ty α} {B : Nat} {w w' : World} {cs : List Value} {x : α} (h : S.at w cs x) (hb : Below B w w') (hB : w.heap.size ≤ B) : S.at w' cs x :=
  Ty.at_more h (Below.mono hb hB)
theorem Ty.at_turns {S : Ty α} {bs : List Nat} {w0 w w' : World} {cs : List Value} {x : α} (h : S.at w0 cs x) (h0 : More w0 w) (hb : Turns bs w w') (hB : ∀ k ∈ bs, w0.heap.size ≤ k) : S.at w' cs x :=
  Ty.at_more h (Below.trans h0 (hb.below h0.size hB))
theorem Ty.own_more {S : Ty α} {bs : List Nat} {w w' : World} {cs : List Value} {x : α} (h : S.own bs w cs x) (hb : More w w') : S.own bs w' cs x :=
  S.own_keep h (fun k hk => hb.block k (S.own_lt h k hk))
theorem Ty.own_turns {S : Ty α} {bs ts : List Nat} {w w' : World} {cs : List Value} {x : α} (h : S.own bs w cs x) (hb : Turns ts w w') (hd : ∀ k ∈ bs, k ∉ ts) : S.own bs w' cs x :=
  S.own_keep h (fun k hk => hb.block k (S.own_lt h k hk) (hd k hk))
theorem Ty.fresh_more {S : Ty α} {B : Nat} {w w' : World} {cs : List Value} {x : α} (h : S.fresh B w cs x) (hb : More w w') : S.fresh B w' cs x := by
  obtain ⟨bs, h1, h2, h3⟩ := h
  exact ⟨bs, Ty.own_more h1 hb, h2, h3⟩
theorem Ty.fresh_mono {S : Ty α} {B B' : Nat} {w : World} {cs : List Value} {x : α} (h : S.fresh B w cs x) (hb : B' ≤ B) : S.fresh B' w cs x := by
  obtain ⟨bs, h1, h2, h3⟩ := h
  exact ⟨bs, h1, h2, fun b hb' => Nat.le_trans hb (h3 b hb')⟩
/-- Two things made one after the other. -/
theorem Ty.fresh_pair {A : Ty α} {C : Ty β} {B : Nat} {w1 w2 : World} {c1 c2 : List Value} {x : α} {y : β} (h1 : A.fresh B w1 c1 x) (hb : More w1 w2) (h2 : C.fresh w1.heap.size w2 c2 y) (hB : B ≤ w1.heap.size) :
    (tProd A C).fresh B w2 (c1 ++ c2) (x, y) := by
  obtain ⟨b1, a1, a2, a3⟩ := h1
  obtain ⟨b2, d1, d2, d3⟩ := h2
  refine ⟨b1 ++ b2, ⟨b1, b2, c1, c2, rfl, rfl, Ty.own_more a1 hb, d1⟩, ?_, ?_⟩
  · rw [List.nodup_append]
    refine ⟨a2, d2, fun k hk k' hk' e => ?_⟩
    subst e
    have := A.own_lt a1 k hk
    have := d3 k hk'
    omega
  · intro b hb'
    rcases List.mem_append.1 hb' with h | h
    · exact a3 b h
    · have := d3 b h; omega

theorem int_at {w : World} {n : Int} (h : In64 n) : tInt.at w [.int .i64 n] n := ⟨rfl, h⟩
theorem int_fresh {B : Nat} {w : World} {n : Int} (h : In64 n) : tInt.fresh B w [.int .i64 n] n := ⟨[], ⟨rfl, rfl, h⟩, by simp, by simp⟩
theorem bool_at {w : World} {b : Bool} : tBool.at w [.bool b] b := rfl
theorem bool_fresh {B : Nat} {w : World} {b : Bool} : tBool.fresh B w [.bool b] b := ⟨[], ⟨rfl, rfl⟩, by simp, by simp⟩
theorem nil_fresh {S : Ty α} {B : Nat} {w : World} : (tSlice S).fresh B w [.slice none 0 0] [] := ⟨[], ⟨none, 0, rfl, by simp, by simp, fun _ => rfl, .inl ⟨rfl, rfl⟩⟩, by simp, by simp⟩
theorem empty_fresh {S : Ty α} {B : Nat} {w : World} {a : Addr} {cap : Nat} (h : cap ≤ maxLen) : (tSlice S).fresh B w [.slice (some a) 0 cap] [] := ⟨[], ⟨some a, cap, rfl, by simp, h, (fun e => by cases e), .inl ⟨rfl, rfl⟩⟩, by simp, by simp⟩

theorem ret_int {k : IntKind} {a b : Int} (h : a = b) : Ending.returned (.int k a) = .returned (.int k b) := by rw [h]
theorem ret_bool {a b : Bool} (h : a = b) : Ending.returned (.bool a) = .returned (.bool b) := by rw [h]

/-! ### Kinds without memory behind them -/
/-- The cells of a value of this kind are a function of it. -/
structure Flat (S : Ty α) where
  enc : α → List Value
  ok : α → Prop
  rd_iff : ∀ p w cs x, S.rd p w cs x ↔ cs = enc x ∧ ok x
  own_iff : ∀ bs w cs x, S.own bs w cs x ↔ bs = [] ∧ cs = enc x ∧ ok x

def fInt : Flat tInt where
  enc n := [.int .i64 n]
  ok n := In64 n
  rd_iff _ _ _ _ := Iff.rfl
  own_iff _ _ _ _ := Iff.rfl

def fBool : Flat tBool where
  enc n := [.bool n]
  ok _ := True
  rd_iff _ _ _ _ := ⟨fun h => ⟨h, trivial⟩, fun h => h.1⟩
  own_iff _ _ _ _ := ⟨fun h => ⟨h.1, h.2, trivial⟩, fun h => ⟨h.1, h.2.1⟩⟩

def fProd {A : Ty α} {B : Ty β} (F : Flat A) (G : Flat B) : Flat (tProd A B) where
  enc x := F.enc x.1 ++ G.enc x.2
  ok x := F.ok x.1 ∧ G.ok x.2
  rd_iff p w cs x := by
    constructor
    · rintro ⟨c1, c2, rfl, h1, h2⟩
      obtain ⟨rfl, k1⟩ := (F.rd_iff _ _ _ _).1 h1
      obtain ⟨rfl, k2⟩ := (G.rd_iff _ _ _ _).1 h2
      exact ⟨rfl, k1, k2⟩
    · rintro ⟨rfl, k1, k2⟩
      exact ⟨_, _, rfl, (F.rd_iff _ _ _ _).2 ⟨rfl, k1⟩, (G.rd_iff _ _ _ _).2 ⟨rfl, k2⟩⟩
  own_iff bs w cs x := by
    constructor
    · rintro ⟨b1, b2, c1, c2, rfl, rfl, h1, h2⟩
      obtain ⟨rfl, rfl, k1⟩ := (F.own_iff _ _ _ _).1 h1
      obtain ⟨rfl, rfl, k2⟩ := (G.own_iff _ _ _ _).1 h2
      exact ⟨rfl, rfl, k1, k2⟩
    · rintro ⟨rfl, rfl, k1, k2⟩
      exact ⟨[], [], _, _, rfl, rfl, (F.own_iff _ _ _ _).2 ⟨rfl, rfl, k1⟩, (G.own_iff _ _ _ _).2 ⟨rfl, rfl, k2⟩⟩

theorem Flat.len {S : Ty α} (F : Flat S) {x : α} (h : F.ok x) : (F.enc x).length = S.size :=
  S.len (p := fun _ => True) (w := default) ((F.rd_iff _ _ _ _).2 ⟨rfl, h⟩)

theorem flatMap_chunk {f : α → List Value} {s : Nat} : ∀ (l : List α), (∀ x ∈ l, (f x).length = s) → ∀ k x, l[k]? = some x → ((l.flatMap f).drop (k * s)).take s = f x := by
  intro l
  induction l with
  | nil => intro _ k x h; simp at h
  | cons y ys ih =>
    intro hl k x hk
    have hy : (f y).length = s := hl y (by simp)
    cases k with
    | zero =>
      simp at hk
      subst hk
      simp [hy]
    | succ k =>
      simp at hk
      have := ih (fun z hz => hl z (by simp [hz])) k x hk
      rw [List.flatMap_cons, Nat.succ_mul, Nat.add_comm, ← List.drop_drop, List.drop_append_of_le_length (Nat.le_of_eq hy.symm), List.drop_of_length_le (Nat.le_of_eq hy), List.nil_append]
      exact this

theorem length_flatMap_chunk {f : α → List Value} {s : Nat} (l : List α) (h : ∀ x ∈ l, (f x).length = s) : (l.flatMap f).length = l.length * s := by
  induction l with
  | nil => simp
  | cons y ys ih => rw [List.flatMap_cons, List.length_append, h y (by simp), ih (fun z hz => h z (by simp [hz])), List.length_cons, Nat.succ_mul, Nat.add_comm]

/-- An owned row of flat elements is a list in new memory. -/
theorem fresh_of_row {S : Ty α} (F : Flat S) {w : World} {B : Nat} {e : TypeId} {v : Value} {l : List α} (h : w.ownsRow B e S.size v l.length (l.flatMap F.enc)) (hok : ∀ x ∈ l, F.ok x) :
    (tSlice S).fresh B w [v] l := by
  rcases h.2 with ⟨rfl, h0⟩ | ⟨g, cap, cur, rfl, hg, hh, hn, hc, hs, ht⟩
  · have : l = [] := List.eq_nil_of_length_eq_zero h0
    subst this
    exact nil_fresh
  · refine ⟨g :: (List.replicate l.length []).flatten, ⟨some ⟨g, 0, none⟩, cap, rfl, hn, hc, (fun e => by cases e), .inr ⟨g, e, cur, List.replicate l.length [], rfl, hh, hs, by simp, rfl, ?_⟩⟩, by simp, by simp [hg]⟩
    intro k x b hk hb
    have hkl : k < l.length := (List.getElem?_eq_some_iff.1 hk).1
    have hb' : b = [] := by
      rw [List.getElem?_replicate] at hb
      simp [hkl] at hb
      exact hb.symm ▸ rfl
    subst hb'
    refine (F.own_iff _ _ _ _).2 ⟨rfl, ?_, hok x (List.mem_of_getElem? hk)⟩
    have h1 := flatMap_chunk (f := F.enc) (s := S.size) l (fun y hy => F.len (hok y hy)) k x hk
    rw [← h1, ← ht, List.drop_take, List.take_take]
    congr 1
    have : (k + 1) * S.size ≤ l.length * S.size := Nat.mul_le_mul_right _ hkl
    rw [Nat.succ_mul] at this
    omega

/-- Element k of a list of flat elements: its cells. -/
theorem slRd_at {S : Ty α} {p : Nat → Prop} {w : World} {v : Value} {l : List α} (h : (tSlice S).rd p w [v] l) :
    ∃ ao cap, v = .slice ao l.length cap ∧ l.length ≤ cap ∧ cap ≤ maxLen ∧ (ao = none → cap = 0) ∧ (0 < l.length → ∃ b off, ao = some ⟨b, off, none⟩ ∧ p b ∧ b < w.heap.size ∧ Elems S p w b off l) := by
  obtain ⟨ao, cap, h0, h1⟩ := h
  simp at h0
  exact ⟨ao, cap, h0, h1⟩

theorem Elems.flat {S : Ty α} (F : Flat S) {p : Nat → Prop} {w : World} {b off : Nat} {l : List α} (h : Elems S p w b off l) {k : Nat} {x : α} (hk : l[k]? = some x) :
    F.ok x ∧ ∀ j v, (F.enc x)[j]? = some v → w.cell? ⟨b, off + k * S.size + j, none⟩ = some v := by
  obtain ⟨c, hc, hj⟩ := h k x hk
  obtain ⟨rfl, ho⟩ := (F.rd_iff _ _ _ _).1 hc
  exact ⟨ho, hj⟩

abbrev QV := Int × Int
def tVec : Ty QV := tProd tInt tInt
def fVec : Flat tVec := fProd fInt fInt
abbrev tInts := tSlice tInt
abbrev tVecs := tSlice tVec
abbrev QR := (Bool × List Int) × List Int
abbrev tBig : Ty (Bool × List Int) := tProd tBool tInts
abbrev tRat : Ty QR := tProd tBig tInts
abbrev QP := QR × QR
abbrev tPoint : Ty QP := tProd tRat tRat

/-! ### The elements, one by one -/
theorem sl_len {S : Ty α} {w : World} {v : Value} {l : List α} (h : (tSlice S).at w [v] l) : ∃ ao cap, v = .slice ao l.length cap := by
  obtain ⟨ao, cap, h1, _⟩ := slRd_at h
  exact ⟨ao, cap, h1⟩

theorem sl_len63 {S : Ty α} {w : World} {v : Value} {l : List α} (h : (tSlice S).at w [v] l) : ∃ ao cap, v = .slice ao l.length cap ∧ l.length ≤ 9223372036854775807 := by
  obtain ⟨ao, cap, h1, h2, h3, _⟩ := slRd_at h
  exact ⟨ao, cap, h1, by unfold maxLen at h3; omega⟩

/-- Element k: its cells, at the slice's address. -/
theorem sl_el {S : Ty α} {w : World} {ao : Option Addr} {n cap : Nat} {l : List α} (h : (tSlice S).at w [.slice ao n cap] l) {k : Nat} {x : α} (hk : l[k]? = some x) :
    ∃ b off c, ao = some ⟨b, off, none⟩ ∧ b < w.heap.size ∧ S.at w c x ∧ ∀ j v, c[j]? = some v → w.cell? ⟨b, off + k * S.size + j, none⟩ = some v := by
  obtain ⟨ao', cap', h0, _, _, _, h4⟩ := slRd_at h
  simp at h0
  obtain ⟨rfl, rfl, rfl⟩ := h0
  obtain ⟨b, off, rfl, _, hb, he⟩ := h4 (by have := (List.getElem?_eq_some_iff.1 hk).1; omega)
  obtain ⟨c, h5, h6⟩ := he k x hk
  exact ⟨b, off, c, rfl, hb, h5, h6⟩

theorem flat_at {S : Ty α} (F : Flat S) {w : World} {c : List Value} {x : α} (h : S.at w c x) : c = F.enc x ∧ F.ok x := (F.rd_iff _ _ _ _).1 h

theorem int_el {w : World} {ao : Option Addr} {n cap : Nat} {l : List Int} (h : tInts.at w [.slice ao n cap] l) {k : Nat} (hk : k < l.length) :
    ∃ b off x, ao = some ⟨b, off, none⟩ ∧ b < w.heap.size ∧ l[k]? = some x ∧ In64 x ∧ w.cell? ⟨b, off + k, none⟩ = some (.int .i64 x) := by
  obtain ⟨x, hx⟩ : ∃ x, l[k]? = some x := ⟨_, List.getElem?_eq_getElem hk⟩
  obtain ⟨b, off, c, rfl, hb, hc, hv⟩ := sl_el h hx
  obtain ⟨rfl, ho⟩ := flat_at fInt hc
  have h0 := hv 0 _ rfl
  refine ⟨b, off, x, rfl, hb, hx, ho, ?_⟩
  rwa [show off + k * tInt.size + 0 = off + k from by show off + k * 1 + 0 = _; omega] at h0

theorem vec_el {w : World} {ao : Option Addr} {n cap : Nat} {l : List QV} (h : tVecs.at w [.slice ao n cap] l) {k : Nat} (hk : k < l.length) :
    ∃ b off x y, ao = some ⟨b, off, none⟩ ∧ b < w.heap.size ∧ l[k]? = some (x, y) ∧ In64 x ∧ In64 y ∧ w.cell? ⟨b, off + k * 2, none⟩ = some (.int .i64 x) ∧ w.cell? ⟨b, off + k * 2 + 1, none⟩ = some (.int .i64 y) := by
  obtain ⟨⟨x, y⟩, hx⟩ : ∃ x, l[k]? = some x := ⟨_, List.getElem?_eq_getElem hk⟩
  obtain ⟨b, off, c, rfl, hb, hc, hv⟩ := sl_el h hx
  obtain ⟨rfl, ho1, ho2⟩ := flat_at fVec hc
  have h0 := hv 0 _ rfl
  have h1 := hv 1 _ rfl
  exact ⟨b, off, x, y, rfl, hb, hx, ho1, ho2, h0, h1⟩

/-- The first index at which p says yes, -1 for none. -/
def idxI (p : α → Bool) (l : List α) : Int := if l.any p then (l.findIdx p : Nat) else -1
theorem idxI_found {p : α → Bool} {l : List α} {k : Nat} {x : α} (h1 : ∀ (i : Nat) y, i < k → l[i]? = some y → p y = false) (h2 : l[k]? = some x) (h3 : p x = true) : idxI p l = k := by
  have hk := (List.getElem?_eq_some_iff.1 h2).1
  have hany : l.any p = true := List.any_eq_true.2 ⟨x, List.mem_of_getElem? h2, h3⟩
  unfold idxI
  rw [if_pos hany]
  have : l.findIdx p = k := by
    rw [List.findIdx_eq hk]
    refine ⟨by rw [(List.getElem?_eq_some_iff.1 h2).2]; exact h3, fun j hj => ?_⟩
    exact h1 j _ hj (List.getElem?_eq_getElem (by omega))
  rw [this]
theorem idxI_none {p : α → Bool} {l : List α} (h1 : ∀ (i : Nat) y, l[i]? = some y → p y = false) : idxI p l = -1 := by
  have : l.any p = false := by
    rw [List.any_eq_false]
    intro x hx
    obtain ⟨i, hi⟩ := List.mem_iff_getElem?.1 hx
    simp [h1 i x hi]
  unfold idxI
  simp [this]
theorem idxI_nonneg {p : α → Bool} {l : List α} : decide (0 ≤ idxI p l) = l.any p := by
  unfold idxI
  cases h : l.any p <;> simp

theorem arr_of {cs : Array Value} {l : List Value} (h : cs.toList = l) : cs = l.toArray := by
  subst h
  rfl
theorem vec_arr {w : World} {cs : Array Value} {x : QV} (h : tVec.at w cs.toList x) : cs = #[.int .i64 x.1, .int .i64 x.2] ∧ In64 x.1 ∧ In64 x.2 := by
  obtain ⟨h1, h2⟩ := flat_at fVec h
  exact ⟨arr_of h1, h2⟩

/-! ### Boxes: the blocks in which a call lays its struct parameters -/
theorem More.un {X w' : World} {o : Obj} (h : More (X.alloc o) w') : More X w' := Turns.more (((Turns.refl [] X).alloc o).trans (h.turns []))
theorem box_new {X w' : World} {C : Array Value} {t : TypeId} {N : Nat} (hN : X.heap.size = N) (h : More (X.alloc (.cells C t)) w') (j : Nat) : w'.cell? ⟨N, j, none⟩ = C[j]? := by
  subst hN
  rw [(bcell h).1 _ _ (by simp), cell_of_row _ X.heap.size j C t (0, 0) (heap_alloc_new X _)]
theorem box_free {X w' : World} {C : Array Value} {t : TypeId} {N : Nat} (hN : X.heap.size = N) (h : More (X.alloc (.cells C t)) w') (j : Nat) : w'.frozen? ⟨N, j, none⟩ = false := by
  subst hN
  rw [(bcell h).2 _ _ (by simp), frozen_of_row _ X.heap.size j C t (heap_alloc_new X _)]

theorem box_keep {w0 w1 : World} (h : More w0 w1) {b o : Nat} {v : Value} (hb : b < w0.heap.size) (hc : w0.cell? ⟨b, o, none⟩ = some v) : w1.cell? ⟨b, o, none⟩ = some v := ((bcell h).1 b o hb).trans hc
theorem free_keep {w0 w1 : World} (h : More w0 w1) {b o : Nat} {v : Bool} (hb : b < w0.heap.size) (hc : w0.frozen? ⟨b, o, none⟩ = v) : w1.frozen? ⟨b, o, none⟩ = v := ((bcell h).2 b o hb).trans hc

end Go.Proofs.Ytkhcblheekfdmaa
