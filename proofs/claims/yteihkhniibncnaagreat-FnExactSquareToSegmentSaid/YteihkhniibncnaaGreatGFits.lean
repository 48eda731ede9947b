/- Several texts laid together; each has its own word at its head. -/
import Derived.Test.YteihkhniibncnaaGreatGBase
import Derived.Deep.Slices
import Derived.Test.YteihkhniibncnaaGreatRows
/- From the form's reading of an argument to the plain data of Base; and the end that all these laws share: true, the arguments as they were. -/
namespace Go.Proofs.YteihkhniibncnaaGreat
open Go.RowKit Go.ChangeShapes Go.WideShapes Go.Deep
variable {α β : Type}

/-- Whatever is read at this type reads as data of this kind. -/
def Fits (P : Program) (t : TypeId) (S : Ty α) : Prop :=
  ∀ {H : Type} (enc : TypeId × Value → H) (W : World) (base : Nat) (sp : Nat → Bool) (held : Bool) (fuel : Nat) (cs : List Value) (x : DataW H × List MemPlace), DataW.trod enc P W base sp held fuel t cs = some x → ∃ a, S.at W cs a

theorem fits_int {P : Program} {t : TypeId} (ht : P.underlying t = some (.int .i64)) : Fits P t tInt := by
  intro H enc W base sp held fuel cs x h
  obtain ⟨n, rfl, _, hw⟩ := DataW.trod_int ht h
  exact ⟨n, rfl, hw⟩
theorem fits_bool {P : Program} {t : TypeId} (ht : P.underlying t = some .bool) : Fits P t tBool := by
  intro H enc W base sp held fuel cs x h
  obtain ⟨b, rfl, _⟩ := DataW.trod_bool ht h
  exact ⟨b, rfl⟩

theorem cells_spot {w : World} {base n : Nat} {a : Addr} {cs : List Value} (h : w.cells? base a n = some cs) (hn : 0 < n) : a.spot = none ∧ a.block < w.heap.size := by
  obtain ⟨_, hl, hc⟩ := World.cells?_some h
  have h0 := hc 0 hn
  have e : a.add 0 = a := by simp [Addr.add]
  rw [e] at h0
  have h1 : w.cell? a = some (cs[0]'(by omega)) := by rw [h0]; exact List.getElem?_eq_getElem _
  refine ⟨?_, World.block_lt_of_cell? w a h1⟩
  unfold World.cell? at h1
  split at h1
  · cases hs : a.spot with
    | none => rfl
    | some s => simp [hs] at h1
  · cases h1

theorem fits_slice {P : Program} {t e : TypeId} {S : Ty α} (ht : P.underlying t = some (.slice e)) (hc : P.cellsOf e = S.size) (hs : 0 < S.size) (hf : Fits P e S) : Fits P t (tSlice S) := by
  intro H enc W base sp held fuel cs x h
  rcases open_slice ht h with ⟨rfl, _⟩ | ⟨a, len, cap, m, n, D, Pl, rfl, _, hl, hm, hmm, rfl, hx⟩
  · exact ⟨[], none, 0, rfl, Nat.le_refl _, Nat.zero_le _, fun _ => rfl, fun h => absurd h (by simp)⟩
  have hlm : len ≤ m := by rw [hmm]; split <;> omega
  rw [hc] at hx
  have hel : ∀ i, i < len → ∃ y c, S.at W c y ∧ W.cells? base (a.add (i * S.size)) S.size = some c := by
    intro i hi
    obtain ⟨c, h1, h2⟩ := hx i (by omega)
    obtain ⟨y, hy⟩ := hf enc W base sp held n c _ h2
    exact ⟨y, c, hy, h1⟩
  by_cases h0 : len = 0
  · subst h0
    exact ⟨[], some a, cap, rfl, hl, hm, (fun e => by cases e), fun h => absurd h (by simp)⟩
  obtain ⟨y0, _⟩ := hel 0 (by omega)
  haveI : Inhabited α := ⟨y0⟩
  obtain ⟨f, hfn⟩ := choose_lt (α := α) (p := fun i y => ∃ c, S.at W c y ∧ W.cells? base (a.add (i * S.size)) S.size = some c) hel
  obtain ⟨c0, _, hc0⟩ := hfn 0 (by omega)
  obtain ⟨hsp, hblk⟩ := cells_spot hc0 hs
  simp only [Nat.zero_mul] at hsp hblk
  have e0 : a.add 0 = a := by simp [Addr.add]
  rw [e0] at hsp hblk
  obtain ⟨b, off, spot⟩ := a
  simp only at hsp hblk
  subst hsp
  refine ⟨(List.range len).map f, some ⟨b, off, none⟩, cap, by simp, by simpa using hl, hm, (fun e => by cases e), fun _ => ⟨b, off, rfl, trivial, hblk, ?_⟩⟩
  intro k x hk
  have hkl : k < len := by
    have := (List.getElem?_eq_some_iff.1 hk).1
    simpa using this
  rw [List.getElem?_map, List.getElem?_range hkl] at hk
  simp at hk
  subst hk
  obtain ⟨c, h1, h2⟩ := hfn k hkl
  obtain ⟨_, hlen, hcell⟩ := World.cells?_some h2
  refine ⟨c, h1, fun j v hv => ?_⟩
  have hj : j < S.size := by
    have := (List.getElem?_eq_some_iff.1 hv).1
    omega
  have := hcell j hj
  rw [hv, Addr.add_lit, Addr.add_lit] at this
  exact this

/-- A struct's cells, part by part: the last part, and one more part ahead. -/
theorem at_last {S : Ty α} {W : World} {cs : List Value} {k : Nat} {x : α} (hl : cs.length = k + S.size) (h : S.at W ((cs.drop k).take S.size) x) : S.at W (cs.drop k) x := by
  rwa [List.take_of_length_le (by rw [List.length_drop]; omega)] at h
theorem at_cons {S : Ty α} {T : Ty β} {W : World} {cs : List Value} {k m : Nat} {x : α} {y : β} (h1 : S.at W ((cs.drop k).take S.size) x) (h2 : T.at W (cs.drop m) y) (hm : m = k + S.size) : (tProd S T).at W (cs.drop k) (x, y) := by
  subst hm
  refine ⟨_, _, ?_, h1, h2⟩
  rw [← List.drop_drop, List.take_append_drop]

/-- The field i of a struct. -/
theorem fits_field {P : Program} {H : Type} {enc : TypeId × Value → H} {W : World} {base : Nat} {sp : Nat → Bool} {held : Bool} {n : Nat} {cs : List Value} {fs : Array Field} {xs : List (DataW H × List MemPlace)} {S : Ty α}
    (h : ∀ (i : Nat) (f : Field), fs[i]? = some f → DataW.trod enc P W base sp held n f.type ((cs.drop f.offset).take (P.cellsOf f.type)) = xs[i]?) (hl : xs.length = fs.size) (i : Nat) (t : TypeId) (o : Nat)
    (hi : (fs[i]?).map (fun f => (f.type, f.offset)) = some (t, o)) (hc : P.cellsOf t = S.size) (hf : Fits P t S) : ∃ a, S.at W ((cs.drop o).take S.size) a := by
  obtain ⟨f, hfi, he⟩ := Option.map_eq_some_iff.1 hi
  simp only [Prod.mk.injEq] at he
  obtain ⟨rfl, rfl⟩ := he
  have := h i f hfi
  have hlt : i < xs.length := by
    rw [hl]
    exact (Array.getElem?_eq_some_iff.1 hfi).1
  rw [List.getElem?_eq_getElem hlt, hc] at this
  exact hf enc W base sp held n _ _ this

theorem fits_struct2 {α0 α1 : Type} {P : Program} {t a0 a1 : TypeId} {fs : Array Field} {S0 : Ty α0} {S1 : Ty α1} {o1 : Nat} (ht : P.underlying t = some (.struct fs)) (hc : P.cellsOf t = S0.size + S1.size)
    (h0 : (fs[0]?).map (fun f => (f.type, f.offset)) = some (a0, 0)) (c0 : P.cellsOf a0 = S0.size) (f0 : Fits P a0 S0)
    (h1 : (fs[1]?).map (fun f => (f.type, f.offset)) = some (a1, o1)) (e1 : o1 = S0.size) (c1 : P.cellsOf a1 = S1.size) (f1 : Fits P a1 S1)
    : Fits P t (tProd S0 S1) := by
  intro H enc W base sp held fuel cs x h
  obtain ⟨xs, n, _, _, hl, hxl, hx⟩ := DataW.trod_struct ht h
  obtain ⟨x0, k0⟩ := fits_field hx hxl 0 a0 0 h0 c0 f0
  obtain ⟨x1, k1⟩ := fits_field hx hxl 1 a1 o1 h1 c1 f1
  exact ⟨(x0, x1), (at_cons k0 (at_last (by omega) k1) (by omega))⟩

/-- The whole reading of the arguments, behind a call that has laid at most new blocks. -/
theorem args_stay {H : Type} {enc : TypeId × Value → H} {P : Program} (hl : laidOutB P = true) {W W' : World} (hb : Below W.heap.size W W') :
    ∀ (ts : List TypeId) (vs : List Value) (ds : List (DataW H)) (ps : List MemPlace), (∀ t ∈ ts, P.readableRec t = true ∧ t < P.types.size) → DataW.TrodAll enc P W 0 (fun _ => true) true ts vs ds ps →
      DataW.TrodAll enc P W' 0 (fun b => decide (b < W.heap.size)) true ts vs ds ps
  | [], [], [], _, _, h => h
  | [], [], _ :: _, _, _, h => h
  | [], _ :: _, _, _, _, h => h
  | _ :: _, [], _, _, _, h => h
  | _ :: _, _ :: _, [], _, _, h => h
  | t :: ts, v :: vs, d :: ds, ps, ht, h => by
    obtain ⟨p, q, h1, h2, rfl⟩ := h
    refine ⟨p, q, Below.trod hl (ht t (by simp)).1 (ht t (by simp)).2 h1 hb ?_, args_stay hl hb ts vs ds q (fun u hu => ht u (by simp [hu])) h2, rfl⟩
    intro x hx
    obtain ⟨fuel, hf⟩ := h1
    exact DataW.trod_lt _ _ _ _ hf x hx

theorem okWide_struct {P : Program} {W : World} {r : Reach} {base : Nat} {t : TypeId} {v : Value} {fs : Array Field} (ht : P.underlying t = some (.struct fs)) (h : Value.okWide P W r base t v) : ∃ cs, v = .agg cs := by
  unfold Value.okWide at h
  rw [ht] at h
  obtain ⟨cs, h, _⟩ := h
  exact ⟨cs, h⟩

end Go.Proofs.YteihkhniibncnaaGreat
/- The program's types read as data. -/
namespace Go.Proofs.YteihkhniibncnaaGreat
theorem cellsInt : (Tryz.prog).cellsOf 3 = 1 := by kernel_rfl
theorem fitsInt : Fits Tryz.prog 3 tInt := fits_int Tryz.underlying3
theorem cellsBool : (Tryz.prog).cellsOf 4 = 1 := by kernel_rfl
theorem fitsBool : Fits Tryz.prog 4 tBool := fits_bool Tryz.underlying4
theorem cellsLIntS : (Tryz.prog).cellsOf 26 = 1 := by kernel_rfl
theorem fitsLIntS : Fits Tryz.prog 26 tInts := fits_slice Tryz.underlying26 cellsInt (by decide) fitsInt
theorem cellsLBigInt : (Tryz.prog).cellsOf 40 = 2 := by kernel_rfl
theorem fitsLBigInt : Fits Tryz.prog 40 tBig := fits_struct2 (S0 := tBool) (S1 := tInts) Tryz.underlying40 cellsLBigInt rfl cellsBool fitsBool rfl rfl cellsLIntS fitsLIntS
theorem cellsLRat : (Tryz.prog).cellsOf 42 = 3 := by kernel_rfl
theorem fitsLRat : Fits Tryz.prog 42 tRat := fits_struct2 (S0 := tBig) (S1 := tInts) Tryz.underlying42 cellsLRat rfl cellsLBigInt fitsLBigInt rfl rfl cellsLIntS fitsLIntS
theorem cellsLPoint : (Tryz.prog).cellsOf 68 = 6 := by kernel_rfl
theorem fitsLPoint : Fits Tryz.prog 68 tPoint := fits_struct2 (S0 := tRat) (S1 := tRat) Tryz.underlying68 cellsLPoint rfl cellsLRat fitsLRat rfl rfl cellsLRat fitsLRat
end Go.Proofs.YteihkhniibncnaaGreat
