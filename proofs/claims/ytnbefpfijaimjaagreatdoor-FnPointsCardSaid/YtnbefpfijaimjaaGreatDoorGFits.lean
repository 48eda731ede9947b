/- Several texts laid together; each has its own word at its head. -/
import Derived.Test.YtnbefpfijaimjaaGreatDoorGBase
import Derived.Deep.Slices
import Derived.Test.YtnbefpfijaimjaaGreatDoorRows
/- From the form's reading of an argument to the plain data of Base; and the end that all these laws share: true, the arguments as they were. -/
namespace Go.Proofs.YtnbefpfijaimjaaGreatDoor
open Go.RowKit Go.ChangeShapes Go.WideShapes Go.Deep
variable {α β : Type}

/-- Whatever is read at this type reads as data of this kind. -/
def Fits (P : Program) (t : TypeId) (S : Ty α) : Prop :=
  ∀ {H : Type} (enc : TypeId × Value → H) (W : World) (base : Nat) (sp : Nat → Bool) (held : Bool) (fuel : Nat) (cs : List Value) (x : DataW H × List MemPlace), DataW.trod enc P W base sp held fuel t cs = some x → ∃ a, S.at W cs a

theorem fits_int {P : Program} {t : TypeId} (ht : P.underlying t = some (.int .i64)) : Fits P t tInt := by
  intro H enc W base sp held fuel cs x h
  obtain ⟨n, rfl, _, hw⟩ := DataW.trod_int ht h
  exact ⟨n, rfl, hw⟩
theorem fits_bool {P : Program} {t : TypeId} (ht : P.underlying t = some .bool) : Fits P t tBool := by
  intro H enc W base sp held fuel cs x h
  obtain ⟨b, rfl, _⟩ := DataW.trod_bool ht h
  exact ⟨b, rfl⟩

theorem cells_spot {w : World} {base n : Nat} {a : Addr} {cs : List Value} (h : w.cells? base a n = some cs) (hn : 0 < n) : a.spot = none ∧ a.block < w.heap.size := by
  obtain ⟨_, hl, hc⟩ := World.cells?_some h
  have h0 := hc 0 hn
  have e : a.add 0 = a := by simp [Addr.add]
  rw [e] at h0
  have h1 : w.cell? a = some (cs[0]'(by omega)) := by rw [h0]; exact List.getElem?_eq_getElem _
  refine ⟨?_, World.block_lt_of_cell? w a h1⟩
  unfold World.cell? at h1
  split at h1
  · cases hs : a.spot with
    | none => rfl
    | some s => simp [hs] at h1
  · cases h1

theorem fits_slice {P : Program} {t e : TypeId} {S : Ty α} (ht : P.underlying t = some (.slice e)) (hc : P.cellsOf e = S.size) (hs : 0 < S.size) (hf : Fits P e S) : Fits P t (tSlice S) := by
  intro H enc W base sp held fuel cs x h
  rcases open_slice ht h with ⟨rfl, _⟩ | ⟨a, len, cap, m, n, D, Pl, rfl, _, hl, hm, hmm, rfl, hx⟩
  · exact ⟨[], none, 0, rfl, Nat.le_refl _, Nat.zero_le _, fun _ => rfl, fun h => absurd h (by simp)⟩
  have hlm : len ≤ m := by rw [hmm]; split <;> omega
  rw [hc] at hx
  have hel : ∀ i, i < len → ∃ y c, S.at W c y ∧ W.cells? base (a.add (i * S.size)) S.size = some c := by
    intro i hi
    obtain ⟨c, h1, h2⟩ := hx i (by omega)
    obtain ⟨y, hy⟩ := hf enc W base sp held n c _ h2
    exact ⟨y, c, hy, h1⟩
  by_cases h0 : len = 0
  · subst h0
    exact ⟨[], some a, cap, rfl, hl, hm, (fun e => by cases e), fun h => absurd h (by simp)⟩
  obtain ⟨y0, _⟩ := hel 0 (by omega)
  haveI : Inhabited α := ⟨y0⟩
  obtain ⟨f, hfn⟩ := choose_lt (α := α) (p := fun i y => ∃ c, S.at W c y ∧ W.cells? base (a.add (i * S.size)) S.size = some c) hel
  obtain ⟨c0, _, hc0⟩ := hfn 0 (by omega)
  obtain ⟨hsp, hblk⟩ := cells_spot hc0 hs
  simp only [Nat.zero_mul] at hsp hblk
  have e0 : a.add 0 = a := by simp [Addr.add]
  rw [e0] at hsp hblk
  obtain ⟨b, off, spot⟩ := a
  simp only at hsp hblk
  subst hsp
  refine ⟨(List.range len).map f, some ⟨b, off, none⟩, cap, by simp, by simpa using hl, hm, (fun e => by cases e), fun _ => ⟨b, off, rfl, trivial, hblk, ?_⟩⟩
  intro k x hk
  have hkl : k < len := by
    have := (List.getElem?_eq_some_iff.1 hk).1
    simpa using this
  rw [List.getElem?_map, List.getElem?_range hkl] at hk
  simp at hk
  subst hk
  obtain ⟨c, h1, h2⟩ := hfn k hkl
  obtain ⟨_, hlen, hcell⟩ := World.cells?_some h2
  refine ⟨c, h1, fun j v hv => ?_⟩
  have hj : j < S.size := by
    have := (List.getElem?_eq_some_iff.1 hv).1
    omega
  have := hcell j hj
  rw [hv, Addr.add_lit, Addr.add_lit] at this
  exact this

/-- A struct's cells, part by part: the last part, and one more part ahead. -/
theorem at_last {S : Ty α} {W : World} {cs : List Value} {k : Nat} {x : α} (hl : cs.length = k + S.size) (h : S.at W ((cs.drop k).take S.size) x) : S.at W (cs.drop k) x := by
  rwa [List.take_of_length_le (by rw [List.length_drop]; omega)] at h
theorem at_cons {S : Ty α} {T : Ty β} {W : World} {cs : List Value} {k m : Nat} {x : α} {y : β} (h1 : S.at W ((cs.drop k).take S.size) x) (h2 : T.at W (cs.drop m) y) (hm : m = k + S.size) : (tProd S T).at W (cs.drop k) (x, y) := by
  subst hm
  refine ⟨_, _, ?_, h1, h2⟩
  rw [← List.drop_drop, List.take_append_drop]

/-- The field i of a struct. -/
theorem fits_field {P : Program} {H : Type} {enc : TypeId × Value → H} {W : World} {base : Nat} {sp : Nat → Bool} {held : Bool} {n : Nat} {cs : List Value} {fs : Array Field} {xs : List (DataW H × List MemPlace)} {S : Ty α}
    (h : ∀ (i : Nat) (f : Field), fs[i]? = some f → DataW.trod enc P W base sp held n f.type ((cs.drop f.offset).take (P.cellsOf f.type)) = xs[i]?) (hl : xs.length = fs.size) (i : Nat) (t : TypeId) (o : Nat)
    (hi : (fs[i]?).map (fun f => (f.type, f.offset)) = some (t, o)) (hc : P.cellsOf t = S.size) (hf : Fits P t S) : ∃ a, S.at W ((cs.drop o).take S.size) a := by
  obtain ⟨f, hfi, he⟩ := Option.map_eq_some_iff.1 hi
  simp only [Prod.mk.injEq] at he
  obtain ⟨rfl, rfl⟩ := he
  have := h i f hfi
  have hlt : i < xs.length := by
    rw [hl]
    exact (Array.getElem?_eq_some_iff.1 hfi).1
  rw [List.getElem?_eq_getElem hlt, hc] at this
  exact hf enc W base sp held n _ _ this

theorem fits_struct2 {α0 α1 : Type} {P : Program} {t a0 a1 : TypeId} {fs : Array Field} {S0 : Ty α0} {S1 : Ty α1} {o1 : Nat} (ht : P.underlying t = some (.struct fs)) (hc : P.cellsOf t = S0.size + S1.size)
    (h0 : (fs[0]?).map (fun f => (f.type, f.offset)) = some (a0, 0)) (c0 : P.cellsOf a0 = S0.size) (f0 : Fits P a0 S0)
    (h1 : (fs[1]?).map (fun f => (f.type, f.offset)) = some (a1, o1)) (e1 : o1 = S0.size) (c1 : P.cellsOf a1 = S1.size) (f1 : Fits P a1 S1)
    : Fits P t (tProd S0 S1) := by
  intro H enc W base sp held fuel cs x h
  obtain ⟨xs, n, _, _, hl, hxl, hx⟩ := DataW.trod_struct ht h
  obtain ⟨x0, k0⟩ := fits_field hx hxl 0 a0 0 h0 c0 f0
  obtain ⟨x1, k1⟩ := fits_field hx hxl 1 a1 o1 h1 c1 f1
  exact ⟨(x0, x1), (at_cons k0 (at_last (by omega) k1) (by omega))⟩

theorem fits_struct3 {α0 α1 α2 : Type} {P : Program} {t a0 a1 a2 : TypeId} {fs : Array Field} {S0 : Ty α0} {S1 : Ty α1} {S2 : Ty α2} {o1 o2 : Nat} (ht : P.underlying t = some (.struct fs)) (hc : P.cellsOf t = S0.size + S1.size + S2.size)
    (h0 : (fs[0]?).map (fun f => (f.type, f.offset)) = some (a0, 0)) (c0 : P.cellsOf a0 = S0.size) (f0 : Fits P a0 S0)
    (h1 : (fs[1]?).map (fun f => (f.type, f.offset)) = some (a1, o1)) (e1 : o1 = S0.size) (c1 : P.cellsOf a1 = S1.size) (f1 : Fits P a1 S1)
    (h2 : (fs[2]?).map (fun f => (f.type, f.offset)) = some (a2, o2)) (e2 : o2 = S0.size + S1.size) (c2 : P.cellsOf a2 = S2.size) (f2 : Fits P a2 S2)
    : Fits P t (tProd S0 (tProd S1 S2)) := by
  intro H enc W base sp held fuel cs x h
  obtain ⟨xs, n, _, _, hl, hxl, hx⟩ := DataW.trod_struct ht h
  obtain ⟨x0, k0⟩ := fits_field hx hxl 0 a0 0 h0 c0 f0
  obtain ⟨x1, k1⟩ := fits_field hx hxl 1 a1 o1 h1 c1 f1
  obtain ⟨x2, k2⟩ := fits_field hx hxl 2 a2 o2 h2 c2 f2
  exact ⟨(x0, (x1, x2)), (at_cons k0 (at_cons k1 (at_last (by omega) k2) (by omega)) (by omega))⟩

theorem fits_struct4 {α0 α1 α2 α3 : Type} {P : Program} {t a0 a1 a2 a3 : TypeId} {fs : Array Field} {S0 : Ty α0} {S1 : Ty α1} {S2 : Ty α2} {S3 : Ty α3} {o1 o2 o3 : Nat} (ht : P.underlying t = some (.struct fs)) (hc : P.cellsOf t = S0.size + S1.size + S2.size + S3.size)
    (h0 : (fs[0]?).map (fun f => (f.type, f.offset)) = some (a0, 0)) (c0 : P.cellsOf a0 = S0.size) (f0 : Fits P a0 S0)
    (h1 : (fs[1]?).map (fun f => (f.type, f.offset)) = some (a1, o1)) (e1 : o1 = S0.size) (c1 : P.cellsOf a1 = S1.size) (f1 : Fits P a1 S1)
    (h2 : (fs[2]?).map (fun f => (f.type, f.offset)) = some (a2, o2)) (e2 : o2 = S0.size + S1.size) (c2 : P.cellsOf a2 = S2.size) (f2 : Fits P a2 S2)
    (h3 : (fs[3]?).map (fun f => (f.type, f.offset)) = some (a3, o3)) (e3 : o3 = S0.size + S1.size + S2.size) (c3 : P.cellsOf a3 = S3.size) (f3 : Fits P a3 S3)
    : Fits P t (tProd S0 (tProd S1 (tProd S2 S3))) := by
  intro H enc W base sp held fuel cs x h
  obtain ⟨xs, n, _, _, hl, hxl, hx⟩ := DataW.trod_struct ht h
  obtain ⟨x0, k0⟩ := fits_field hx hxl 0 a0 0 h0 c0 f0
  obtain ⟨x1, k1⟩ := fits_field hx hxl 1 a1 o1 h1 c1 f1
  obtain ⟨x2, k2⟩ := fits_field hx hxl 2 a2 o2 h2 c2 f2
  obtain ⟨x3, k3⟩ := fits_field hx hxl 3 a3 o3 h3 c3 f3
  exact ⟨(x0, (x1, (x2, x3))), (at_cons k0 (at_cons k1 (at_cons k2 (at_last (by omega) k3) (by omega)) (by omega)) (by omega))⟩

theorem fits_struct5 {α0 α1 α2 α3 α4 : Type} {P : Program} {t a0 a1 a2 a3 a4 : TypeId} {fs : Array Field} {S0 : Ty α0} {S1 : Ty α1} {S2 : Ty α2} {S3 : Ty α3} {S4 : Ty α4} {o1 o2 o3 o4 : Nat} (ht : P.underlying t = some (.struct fs)) (hc : P.cellsOf t = S0.size + S1.size + S2.size + S3.size + S4.size)
    (h0 : (fs[0]?).map (fun f => (f.type, f.offset)) = some (a0, 0)) (c0 : P.cellsOf a0 = S0.size) (f0 : Fits P a0 S0)
    (h1 : (fs[1]?).map (fun f => (f.type, f.offset)) = some (a1, o1)) (e1 : o1 = S0.size) (c1 : P.cellsOf a1 = S1.size) (f1 : Fits P a1 S1)
    (h2 : (fs[2]?).map (fun f => (f.type, f.offset)) = some (a2, o2)) (e2 : o2 = S0.size + S1.size) (c2 : P.cellsOf a2 = S2.size) (f2 : Fits P a2 S2)
    (h3 : (fs[3]?).map (fun f => (f.type, f.offset)) = some (a3, o3)) (e3 : o3 = S0.size + S1.size + S2.size) (c3 : P.cellsOf a3 = S3.size) (f3 : Fits P a3 S3)
    (h4 : (fs[4]?).map (fun f => (f.type, f.offset)) = some (a4, o4)) (e4 : o4 = S0.size + S1.size + S2.size + S3.size) (c4 : P.cellsOf a4 = S4.size) (f4 : Fits P a4 S4)
    : Fits P t (tProd S0 (tProd S1 (tProd S2 (tProd S3 S4)))) := by
  intro H enc W base sp held fuel cs x h
  obtain ⟨xs, n, _, _, hl, hxl, hx⟩ := DataW.trod_struct ht h
  obtain ⟨x0, k0⟩ := fits_field hx hxl 0 a0 0 h0 c0 f0
  obtain ⟨x1, k1⟩ := fits_field hx hxl 1 a1 o1 h1 c1 f1
  obtain ⟨x2, k2⟩ := fits_field hx hxl 2 a2 o2 h2 c2 f2
  obtain ⟨x3, k3⟩ := fits_field hx hxl 3 a3 o3 h3 c3 f3
  obtain ⟨x4, k4⟩ := fits_field hx hxl 4 a4 o4 h4 c4 f4
  exact ⟨(x0, (x1, (x2, (x3, x4)))), (at_cons k0 (at_cons k1 (at_cons k2 (at_cons k3 (at_last (by omega) k4) (by omega)) (by omega)) (by omega)) (by omega))⟩

theorem fits_struct6 {α0 α1 α2 α3 α4 α5 : Type} {P : Program} {t a0 a1 a2 a3 a4 a5 : TypeId} {fs : Array Field} {S0 : Ty α0} {S1 : Ty α1} {S2 : Ty α2} {S3 : Ty α3} {S4 : Ty α4} {S5 : Ty α5} {o1 o2 o3 o4 o5 : Nat} (ht : P.underlying t = some (.struct fs)) (hc : P.cellsOf t = S0.size + S1.size + S2.size + S3.size + S4.size + S5.size)
    (h0 : (fs[0]?).map (fun f => (f.type, f.offset)) = some (a0, 0)) (c0 : P.cellsOf a0 = S0.size) (f0 : Fits P a0 S0)
    (h1 : (fs[1]?).map (fun f => (f.type, f.offset)) = some (a1, o1)) (e1 : o1 = S0.size) (c1 : P.cellsOf a1 = S1.size) (f1 : Fits P a1 S1)
    (h2 : (fs[2]?).map (fun f => (f.type, f.offset)) = some (a2, o2)) (e2 : o2 = S0.size + S1.size) (c2 : P.cellsOf a2 = S2.size) (f2 : Fits P a2 S2)
    (h3 : (fs[3]?).map (fun f => (f.type, f.offset)) = some (a3, o3)) (e3 : o3 = S0.size + S1.size + S2.size) (c3 : P.cellsOf a3 = S3.size) (f3 : Fits P a3 S3)
    (h4 : (fs[4]?).map (fun f => (f.type, f.offset)) = some (a4, o4)) (e4 : o4 = S0.size + S1.size + S2.size + S3.size) (c4 : P.cellsOf a4 = S4.size) (f4 : Fits P a4 S4)
    (h5 : (fs[5]?).map (fun f => (f.type, f.offset)) = some (a5, o5)) (e5 : o5 = S0.size + S1.size + S2.size + S3.size + S4.size) (c5 : P.cellsOf a5 = S5.size) (f5 : Fits P a5 S5)
    : Fits P t (tProd S0 (tProd S1 (tProd S2 (tProd S3 (tProd S4 S5))))) := by
  intro H enc W base sp held fuel cs x h
  obtain ⟨xs, n, _, _, hl, hxl, hx⟩ := DataW.trod_struct ht h
  obtain ⟨x0, k0⟩ := fits_field hx hxl 0 a0 0 h0 c0 f0
  obtain ⟨x1, k1⟩ := fits_field hx hxl 1 a1 o1 h1 c1 f1
  obtain ⟨x2, k2⟩ := fits_field hx hxl 2 a2 o2 h2 c2 f2
  obtain ⟨x3, k3⟩ := fits_field hx hxl 3 a3 o3 h3 c3 f3
  obtain ⟨x4, k4⟩ := fits_field hx hxl 4 a4 o4 h4 c4 f4
  obtain ⟨x5, k5⟩ := fits_field hx hxl 5 a5 o5 h5 c5 f5
  exact ⟨(x0, (x1, (x2, (x3, (x4, x5))))), (at_cons k0 (at_cons k1 (at_cons k2 (at_cons k3 (at_cons k4 (at_last (by omega) k5) (by omega)) (by omega)) (by omega)) (by omega)) (by omega))⟩

theorem fits_struct8 {α0 α1 α2 α3 α4 α5 α6 α7 : Type} {P : Program} {t a0 a1 a2 a3 a4 a5 a6 a7 : TypeId} {fs : Array Field} {S0 : Ty α0} {S1 : Ty α1} {S2 : Ty α2} {S3 : Ty α3} {S4 : Ty α4} {S5 : Ty α5} {S6 : Ty α6} {S7 : Ty α7} {o1 o2 o3 o4 o5 o6 o7 : Nat} (ht : P.underlying t = some (.struct fs)) (hc : P.cellsOf t = S0.size + S1.size + S2.size + S3.size + S4.size + S5.size + S6.size + S7.size)
    (h0 : (fs[0]?).map (fun f => (f.type, f.offset)) = some (a0, 0)) (c0 : P.cellsOf a0 = S0.size) (f0 : Fits P a0 S0)
    (h1 : (fs[1]?).map (fun f => (f.type, f.offset)) = some (a1, o1)) (e1 : o1 = S0.size) (c1 : P.cellsOf a1 = S1.size) (f1 : Fits P a1 S1)
    (h2 : (fs[2]?).map (fun f => (f.type, f.offset)) = some (a2, o2)) (e2 : o2 = S0.size + S1.size) (c2 : P.cellsOf a2 = S2.size) (f2 : Fits P a2 S2)
    (h3 : (fs[3]?).map (fun f => (f.type, f.offset)) = some (a3, o3)) (e3 : o3 = S0.size + S1.size + S2.size) (c3 : P.cellsOf a3 = S3.size) (f3 : Fits P a3 S3)
    (h4 : (fs[4]?).map (fun f => (f.type, f.offset)) = some (a4, o4)) (e4 : o4 = S0.size + S1.size + S2.size + S3.size) (c4 : P.cellsOf a4 = S4.size) (f4 : Fits P a4 S4)
    (h5 : (fs[5]?).map (fun f => (f.type, f.offset)) = some (a5, o5)) (e5 : o5 = S0.size + S1.size + S2.size + S3.size + S4.size) (c5 : P.cellsOf a5 = S5.size) (f5 : Fits P a5 S5)
    (h6 : (fs[6]?).map (fun f => (f.type, f.offset)) = some (a6, o6)) (e6 : o6 = S0.size + S1.size + S2.size + S3.size + S4.size + S5.size) (c6 : P.cellsOf a6 = S6.size) (f6 : Fits P a6 S6)
    (h7 : (fs[7]?).map (fun f => (f.type, f.offset)) = some (a7, o7)) (e7 : o7 = S0.size + S1.size + S2.size + S3.size + S4.size + S5.size + S6.size) (c7 : P.cellsOf a7 = S7.size) (f7 : Fits P a7 S7)
    : Fits P t (tProd S0 (tProd S1 (tProd S2 (tProd S3 (tProd S4 (tProd S5 (tProd S6 S7))))))) := by
  intro H enc W base sp held fuel cs x h
  obtain ⟨xs, n, _, _, hl, hxl, hx⟩ := DataW.trod_struct ht h
  obtain ⟨x0, k0⟩ := fits_field hx hxl 0 a0 0 h0 c0 f0
  obtain ⟨x1, k1⟩ := fits_field hx hxl 1 a1 o1 h1 c1 f1
  obtain ⟨x2, k2⟩ := fits_field hx hxl 2 a2 o2 h2 c2 f2
  obtain ⟨x3, k3⟩ := fits_field hx hxl 3 a3 o3 h3 c3 f3
  obtain ⟨x4, k4⟩ := fits_field hx hxl 4 a4 o4 h4 c4 f4
  obtain ⟨x5, k5⟩ := fits_field hx hxl 5 a5 o5 h5 c5 f5
  obtain ⟨x6, k6⟩ := fits_field hx hxl 6 a6 o6 h6 c6 f6
  obtain ⟨x7, k7⟩ := fits_field hx hxl 7 a7 o7 h7 c7 f7
  exact ⟨(x0, (x1, (x2, (x3, (x4, (x5, (x6, x7))))))), (at_cons k0 (at_cons k1 (at_cons k2 (at_cons k3 (at_cons k4 (at_cons k5 (at_cons k6 (at_last (by omega) k7) (by omega)) (by omega)) (by omega)) (by omega)) (by omega)) (by omega)) (by omega))⟩

/-- The whole reading of the arguments, behind a call that has laid at most new blocks. -/
theorem args_stay {H : Type} {enc : TypeId × Value → H} {P : Program} (hl : laidOutB P = true) {W W' : World} (hb : Below W.heap.size W W') :
    ∀ (ts : List TypeId) (vs : List Value) (ds : List (DataW H)) (ps : List MemPlace), (∀ t ∈ ts, P.readableRec t = true ∧ t < P.types.size) → DataW.TrodAll enc P W 0 (fun _ => true) true ts vs ds ps →
      DataW.TrodAll enc P W' 0 (fun b => decide (b < W.heap.size)) true ts vs ds ps
  | [], [], [], _, _, h => h
  | [], [], _ :: _, _, _, h => h
  | [], _ :: _, _, _, _, h => h
  | _ :: _, [], _, _, _, h => h
  | _ :: _, _ :: _, [], _, _, h => h
  | t :: ts, v :: vs, d :: ds, ps, ht, h => by
    obtain ⟨p, q, h1, h2, rfl⟩ := h
    refine ⟨p, q, Below.trod hl (ht t (by simp)).1 (ht t (by simp)).2 h1 hb ?_, args_stay hl hb ts vs ds q (fun u hu => ht u (by simp [hu])) h2, rfl⟩
    intro x hx
    obtain ⟨fuel, hf⟩ := h1
    exact DataW.trod_lt _ _ _ _ hf x hx

theorem okWide_struct {P : Program} {W : World} {r : Reach} {base : Nat} {t : TypeId} {v : Value} {fs : Array Field} (ht : P.underlying t = some (.struct fs)) (h : Value.okWide P W r base t v) : ∃ cs, v = .agg cs := by
  unfold Value.okWide at h
  rw [ht] at h
  obtain ⟨cs, h, _⟩ := h
  exact ⟨cs, h⟩

end Go.Proofs.YtnbefpfijaimjaaGreatDoor
/- The program's types read as data. -/
namespace Go.Proofs.YtnbefpfijaimjaaGreatDoor
theorem cellsInt : (Tryz.prog).cellsOf 3 = 1 := by kernel_rfl
theorem fitsInt : Fits Tryz.prog 3 tInt := fits_int Tryz.underlying3
theorem cellsBool : (Tryz.prog).cellsOf 4 = 1 := by kernel_rfl
theorem fitsBool : Fits Tryz.prog 4 tBool := fits_bool Tryz.underlying4
end Go.Proofs.YtnbefpfijaimjaaGreatDoor
