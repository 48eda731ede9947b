/- slices.SortFunc of fractions, over a row of the call's own. -/
import Derived.Test.YtnbefpfijaimjaaSfl
import Derived.Test.YtnbefpfijaimjaaGrw
import Derived.Test.YtnbefpfijaimjaaSrp
namespace Go.Proofs.Ytnbefpfijaimjaa
open Go.RowKit Go.Sort
/-- An element as the sort sees it: a valid fraction that lies outside the row. -/
abbrev SE (g : Nat) (w : World) := {p : List Value × QR // tRat.rd (fun k => k ≠ g) w p.1 p.2 ∧ ratOkB p.2 = true}
theorem se_swo (g : Nat) (w : World) : SWO (ltOf (fun x y : SE g w => rCmp x.1.2 y.1.2)) where
  irrefl x := rLt_irrefl x.1.2 x.2.2
  trans x y z h h' := rLt_trans x.2.2 y.2.2 z.2.2 h h'
  ntrans x y z h h' := rLt_ntrans x.2.2 y.2.2 z.2.2 h h'
theorem row_holds {g : Nat} {w : World} {R : QL} [Inhabited (SE g w)] (h : RowR tRat g w R) (d : Array (SE g w)) (hd : d.toList.map Subtype.val = R) : HoldsK (fun x : SE g w => x.1.1) 3 w g 0 d := by
  intro j hj
  rw [size_flatK] at hj
  have hi : j / 3 < d.size := by omega
  have hp : R[j / 3]? = some d[j / 3].1 := by
    rw [← hd, List.getElem?_map, Array.getElem?_toList, Array.getElem?_eq_getElem hi]
    rfl
  rw [get_flatK _ _ _ _ hj, getElem!_pos d _ hi]
  refine ⟨?_, h.free _⟩
  have hl := tRat.len (h.rd _ _ hp)
  have hm : j % 3 < d[j / 3].1.1.length := by rw [hl]; exact Nat.mod_lt _ (by decide)
  have := h.cells _ _ hp (j % 3) _ (List.getElem?_eq_getElem hm)
  rw [show j / 3 * tRat.size + j % 3 = 0 + j by show j / 3 * 3 + j % 3 = 0 + j; omega] at this
  rw [this, getElem!_pos d[j / 3].1.1 _ hm]
  rfl
theorem row_held {g : Nat} {w W : World} [Inhabited (SE g w)] {d : Array (SE g w)} (h : HoldsK (fun x : SE g w => x.1.1) 3 W g 0 d) (t : Turns [g] w W) (hlt : g < w.heap.size) (hfr : ∀ j, W.frozen? ⟨g, j, none⟩ = false) : RowR tRat g W (d.toList.map Subtype.val) := by
  have get : ∀ (j : Nat) (p : List Value × QR), (d.toList.map Subtype.val)[j]? = some p → ∃ hj : j < d.size, d[j].1 = p := by
    intro j p hp
    rw [List.getElem?_map, Array.getElem?_toList] at hp
    by_cases hj : j < d.size
    · rw [Array.getElem?_eq_getElem hj] at hp
      simp at hp
      exact ⟨hj, hp⟩
    · rw [Array.getElem?_eq_none (by omega)] at hp
      cases hp
  refine ⟨fun j p hp i u hu => ?_, hfr, fun j p hp => ?_, Nat.lt_of_lt_of_le hlt t.size⟩
  · obtain ⟨hj, rfl⟩ := get j p hp
    have hl := tRat.len d[j].2.1
    have hi : i < 3 := by have := (List.getElem?_eq_some_iff.1 hu).1; rw [hl] at this; exact this
    have := (HoldsK.cell h hj hi).1
    rw [Nat.zero_add, getElem!_pos d _ hj] at this
    show W.cell? ⟨g, j * 3 + i, none⟩ = some u
    rw [this]
    rw [List.getElem?_eq_getElem (by rw [hl]; exact hi)] at hu
    cases hu
    rw [getElem!_pos d[j].1.1 _ (show i < d[j].1.1.length by rw [hl]; exact hi)]
  · obtain ⟨hj, rfl⟩ := get j p hp
    exact rd_but d[j].2.1 t
theorem frozen_sort {α : Type} [Inhabited α] {enc : α → List Value} {k : Nat} {w : World} {blk off m : Nat} {dk : Array α} {os : Array Obj} (hb : blk < w.heap.size) (h : ∀ j, w.frozen? ⟨blk, j, none⟩ = false) (j : Nat) : (sortWorldK enc k w blk off m dk os).frozen? ⟨blk, j, none⟩ = false := by
  unfold sortWorldK
  rw [frozen?_grow _ _ _ (by rw [size_putRowK]; exact hb)]
  unfold putRowK
  rw [frozen?_putRow]
  exact h j
set_option maxHeartbeats 1600000 in
theorem sort_some (g cap : Nat) (R : QL) (w : World) (h : RowR tRat g w R) (hok : ∀ p ∈ R, ratOkB p.2 = true) (hn : 0 < R.length) (hl : R.length ≤ 1048576) :
    Calls Try.prog 36 #[.slice (some ⟨g, 0, none⟩) R.length cap, .func (.func 37) #[] #[]] w fun e w' => e = .returned (.tuple #[]) ∧ Turns [g] w w' ∧
      ∃ R', RowR tRat g w' R' ∧ R'.Perm R ∧ Srt R' := by
  have hel : ∀ p ∈ R, tRat.rd (fun k => k ≠ g) w p.1 p.2 ∧ ratOkB p.2 = true := fun p hp => by
    obtain ⟨i, hi⟩ := List.mem_iff_getElem?.1 hp
    exact ⟨h.rd i p hi, hok p hp⟩
  obtain ⟨d, hd⟩ : ∃ d : Array (SE g w), d.toList.map Subtype.val = R := ⟨(R.attachWith _ hel).toArray, List.attachWith_map_subtype_val hel⟩
  have hds : d.size = R.length := by rw [← hd, List.length_map, Array.length_toList]
  haveI : Inhabited (SE g w) := ⟨d[0]'(by omega)⟩
  have eg : ∀ args w, (callFunc 37 args).run Try.prog w = .ok (.enter 37 args) w := Go.Proofs.enters_of Try.func37 (by kernel_rfl) rfl
  have hC : CmpLays Try.prog 37 #[] (fun x : SE g w => x.1.1) 3 (fun x y => rCmp x.1.2 y.1.2) g 0 d.size w := by
    intro m os dk _ x y
    have T := sort_turns (fun x : SE g w => x.1.1) 3 w g 0 m dk os
    have r1 := Ty.rd_at (rd_but x.2.1 T)
    have r2 := Ty.rd_at (rd_but y.2.1 T)
    obtain ⟨a1, n1, c1, a2, n2, c2, e1⟩ := sh_Rat r1
    obtain ⟨a1', n1', c1', a2', n2', c2', e2⟩ := sh_Rat r2
    rw [e1] at r1
    rw [e2] at r2
    have := impl_ratCmpX x.1.2 _ _ _ y.1.2 _ _ _ (sortWorldK (fun x : SE g w => x.1.1) 3 w g 0 m dk os) x.2.2 y.2.2 r1 r2
    rw [Array.append_empty]
    have k1 : (Value.agg x.1.1.toArray) = .agg #[.bool x.1.2.1.1, .slice a1 n1 c1, .slice a2 n2 c2] := by rw [e1]
    have k2 : (Value.agg y.1.1.toArray) = .agg #[.bool y.1.2.1.1, .slice a1' n1' c1', .slice a2' n2' c2'] := by rw [e2]
    show Calls _ _ #[Value.agg x.1.1.toArray, Value.agg y.1.1.toArray] _ _
    rw [k1, k2]
    exact this.mono fun e w' ⟨h1, h2⟩ => ⟨h1, h2.grow⟩
  have hs := AnyQ.slices_SortFunc laysSF 3 (fun w => Try.isAgg38 w) (fun w => Try.sizeOf38 w) (fun x : SE g w => x.1.1) (fun x => tRat.len x.2.1) (fun x v hv => tRat.one x.2.1 v hv) _ (se_swo g w) 37 #[] g 0 cap d w eg hC (row_holds h d hd) h.lt (by omega)
  rw [hds] at hs
  refine hs.mono ?_
  rintro e w' ⟨rfl, d', n, os, hp, hsd, rfl⟩
  have T := sort_turns (fun x : SE g w => x.1.1) 3 w g 0 n d' os
  have hsz : d'.size = d.size := hp.1
  refine ⟨rfl, T, d'.toList.map Subtype.val, row_held (holdsK_sortWorldK_c _ _ _ _ _ d d' n os (row_holds h d hd) h.lt hsz) T h.lt (frozen_sort h.lt h.free), ?_, ?_⟩
  · rw [← hd]
    have := hp.2.2
    rw [← hds, Array.extract_size] at this
    rw [show d'.extract 0 d.size = d' by rw [← hsz, Array.extract_size]] at this
    exact this.map _
  · intro i j p q hij hpi hqj
    have get : ∀ (j : Nat) (p : List Value × QR), (d'.toList.map Subtype.val)[j]? = some p → ∃ hj : j < d'.size, d'[j].1 = p := by
      intro j p hp
      rw [List.getElem?_map, Array.getElem?_toList] at hp
      by_cases hj : j < d'.size
      · rw [Array.getElem?_eq_getElem hj] at hp
        simp at hp
        exact ⟨hj, hp⟩
      · rw [Array.getElem?_eq_none (by omega)] at hp
        cases hp
    obtain ⟨hi, rfl⟩ := get i p hpi
    obtain ⟨hj, rfl⟩ := get j q hqj
    have := hsd i j (Nat.zero_le _) hij (by omega)
    rw [getElem!_pos d' _ hj, getElem!_pos d' _ hi] at this
    exact this
end Go.Proofs.Ytnbefpfijaimjaa
