/- The kinds of data of the planner, their weights (how many elements they hold), their cells. It speaks of no program. -/
import Derived.Test.YtkhcblheekfdmaaList
import Derived.Test.YtkhcblheekfdmaaKinds
namespace Go.Proofs.Ytkhcblheekfdmaa
open Go.RowKit
variable {α β : Type}
theorem at_prod {A : Ty α} {B : Ty β} {w : World} {cs : List Value} {x : α × β} (h : (tProd A B).at w cs x) : ∃ c1 c2, cs = c1 ++ c2 ∧ A.at w c1 x.1 ∧ B.at w c2 x.2 := h
theorem prod_at {A : Ty α} {B : Ty β} {w : World} {c1 c2 : List Value} {x : α} {y : β} (h1 : A.at w c1 x) (h2 : B.at w c2 y) : (tProd A B).at w (c1 ++ c2) (x, y) := ⟨c1, c2, rfl, h1, h2⟩
theorem int_in {w : World} {cs : List Value} {n : Int} (h : tInt.at w cs n) : In64 n := h.2
theorem sh_int {w : World} {cs : List Value} {x : Int} (h : tInt.at w cs x) : cs = [.int .i64 x] := h.1
theorem sh_bool {w : World} {cs : List Value} {x : Bool} (h : tBool.at w cs x) : cs = [.bool x] := h
theorem sh_slice {S : Ty α} {w : World} {cs : List Value} {l : List α} (h : (tSlice S).at w cs l) : ∃ (a : Option Addr) (n c : Nat), cs = [.slice a n c] := by
  obtain ⟨ao, cap, rfl, _⟩ := h
  exact ⟨_, _, _, rfl⟩
theorem sh_sliceL {S : Ty α} {w : World} {cs : List Value} {l : List α} (h : (tSlice S).at w cs l) : ∃ (a : Option Addr) (c : Nat), cs = [.slice a l.length c] := by
  obtain ⟨ao, cap, rfl, _⟩ := h
  exact ⟨_, _, rfl⟩
theorem Ty.fresh_turns {S : Ty α} {B : Nat} {bs : List Nat} {w w' : World} {cs : List Value} {x : α} (h : S.fresh B w cs x) (hb : Turns bs w w') (hk : ∀ k ∈ bs, k < B) : S.fresh B w' cs x := by
  obtain ⟨b, h1, h2, h3⟩ := h
  exact ⟨b, Ty.own_turns h1 hb (fun k hk1 hk2 => by have := h3 k hk1; have := hk k hk2; omega), h2, h3⟩
theorem Ty.fresh_pairT {A : Ty α} {C : Ty β} {B : Nat} {bs : List Nat} {w1 w2 : World} {c1 c2 : List Value} {x : α} {y : β} (h1 : A.fresh B w1 c1 x) (hb : Turns bs w1 w2) (hk : ∀ k ∈ bs, k < B) (h2 : C.fresh w1.heap.size w2 c2 y) (hB : B ≤ w1.heap.size) :
    (tProd A C).fresh B w2 (c1 ++ c2) (x, y) := by
  obtain ⟨b1, a1, a2, a3⟩ := h1
  have a4 := Ty.own_turns a1 hb (fun k hk1 hk2 => by have := a3 k hk1; have := hk k hk2; omega)
  obtain ⟨b2, d1, d2, d3⟩ := h2
  refine ⟨b1 ++ b2, ⟨b1, b2, c1, c2, rfl, rfl, a4, d1⟩, ?_, ?_⟩
  · rw [List.nodup_append]
    refine ⟨a2, d2, fun k hk k' hk' e => ?_⟩
    subst e
    have := A.own_lt a1 k hk
    have := d3 k hk'
    omega
  · intro b hb'
    rcases List.mem_append.1 hb' with h | h
    · exact a3 b h
    · have := d3 b h; omega
/-- Of a flat kind before what was made. -/
theorem Ty.fresh_flat {A : Ty α} (F : Flat A) {C : Ty β} {B : Nat} {w : World} {c1 c2 : List Value} {x : α} {y : β} (h1 : c1 = F.enc x) (h0 : F.ok x) (h2 : C.fresh B w c2 y) : (tProd A C).fresh B w (c1 ++ c2) (x, y) := by
  subst h1
  obtain ⟨b2, d1, d2, d3⟩ := h2
  exact ⟨b2, ⟨[], b2, _, c2, rfl, rfl, (F.own_iff _ _ _ _).2 ⟨rfl, rfl, h0⟩, d1⟩, d2, d3⟩
def wsum (f : α → Nat) (l : List α) : Nat := (l.map f).sum
theorem wsum_next {f : α → Nat} {l : List α} {k : Nat} {x : α} (hx : l[k]? = some x) : wsum f (l.take (k + 1)) = wsum f (l.take k) + f x := by
  obtain ⟨hk, rfl⟩ := List.getElem?_eq_some_iff.1 hx
  unfold wsum
  rw [List.take_succ_eq_append_getElem hk, List.map_append, List.sum_append]
  simp
theorem wsum_take (f : α → Nat) (l : List α) (k : Nat) : wsum f (l.take k) ≤ wsum f l := by
  unfold wsum
  conv => rhs; rw [← List.take_append_drop k l]
  rw [List.map_append, List.sum_append]
  omega
theorem wsum_el {f : α → Nat} {l : List α} {k : Nat} {x : α} (hx : l[k]? = some x) : f x ≤ wsum f l := by
  have h1 := wsum_next (f := f) hx
  have h2 := wsum_take f l (k + 1)
  omega

theorem setCs_2 (w : World) (g o : Nat) (c0 c1 : Value) : setCs w g o [c0, c1] = ((w.setCell ⟨g, o, none⟩ c0).setCell ⟨g, o + 1, none⟩ c1) := rfl
theorem setCs_3 (w : World) (g o : Nat) (c0 c1 c2 : Value) : setCs w g o [c0, c1, c2] = (((w.setCell ⟨g, o, none⟩ c0).setCell ⟨g, o + 1, none⟩ c1).setCell ⟨g, o + 2, none⟩ c2) := rfl
theorem setCs_4 (w : World) (g o : Nat) (c0 c1 c2 c3 : Value) : setCs w g o [c0, c1, c2, c3] = ((((w.setCell ⟨g, o, none⟩ c0).setCell ⟨g, o + 1, none⟩ c1).setCell ⟨g, o + 2, none⟩ c2).setCell ⟨g, o + 3, none⟩ c3) := rfl
theorem setCs_6 (w : World) (g o : Nat) (c0 c1 c2 c3 c4 c5 : Value) : setCs w g o [c0, c1, c2, c3, c4, c5] = ((((((w.setCell ⟨g, o, none⟩ c0).setCell ⟨g, o + 1, none⟩ c1).setCell ⟨g, o + 2, none⟩ c2).setCell ⟨g, o + 3, none⟩ c3).setCell ⟨g, o + 4, none⟩ c4).setCell ⟨g, o + 5, none⟩ c5) := rfl
theorem setCs_7 (w : World) (g o : Nat) (c0 c1 c2 c3 c4 c5 c6 : Value) : setCs w g o [c0, c1, c2, c3, c4, c5, c6] = (((((((w.setCell ⟨g, o, none⟩ c0).setCell ⟨g, o + 1, none⟩ c1).setCell ⟨g, o + 2, none⟩ c2).setCell ⟨g, o + 3, none⟩ c3).setCell ⟨g, o + 4, none⟩ c4).setCell ⟨g, o + 5, none⟩ c5).setCell ⟨g, o + 6, none⟩ c6) := rfl
theorem setCs_9 (w : World) (g o : Nat) (c0 c1 c2 c3 c4 c5 c6 c7 c8 : Value) : setCs w g o [c0, c1, c2, c3, c4, c5, c6, c7, c8] = (((((((((w.setCell ⟨g, o, none⟩ c0).setCell ⟨g, o + 1, none⟩ c1).setCell ⟨g, o + 2, none⟩ c2).setCell ⟨g, o + 3, none⟩ c3).setCell ⟨g, o + 4, none⟩ c4).setCell ⟨g, o + 5, none⟩ c5).setCell ⟨g, o + 6, none⟩ c6).setCell ⟨g, o + 7, none⟩ c7).setCell ⟨g, o + 8, none⟩ c8) := rfl
theorem setCs_10 (w : World) (g o : Nat) (c0 c1 c2 c3 c4 c5 c6 c7 c8 c9 : Value) : setCs w g o [c0, c1, c2, c3, c4, c5, c6, c7, c8, c9] = ((((((((((w.setCell ⟨g, o, none⟩ c0).setCell ⟨g, o + 1, none⟩ c1).setCell ⟨g, o + 2, none⟩ c2).setCell ⟨g, o + 3, none⟩ c3).setCell ⟨g, o + 4, none⟩ c4).setCell ⟨g, o + 5, none⟩ c5).setCell ⟨g, o + 6, none⟩ c6).setCell ⟨g, o + 7, none⟩ c7).setCell ⟨g, o + 8, none⟩ c8).setCell ⟨g, o + 9, none⟩ c9) := rfl
theorem setCs_11 (w : World) (g o : Nat) (c0 c1 c2 c3 c4 c5 c6 c7 c8 c9 c10 : Value) : setCs w g o [c0, c1, c2, c3, c4, c5, c6, c7, c8, c9, c10] = (((((((((((w.setCell ⟨g, o, none⟩ c0).setCell ⟨g, o + 1, none⟩ c1).setCell ⟨g, o + 2, none⟩ c2).setCell ⟨g, o + 3, none⟩ c3).setCell ⟨g, o + 4, none⟩ c4).setCell ⟨g, o + 5, none⟩ c5).setCell ⟨g, o + 6, none⟩ c6).setCell ⟨g, o + 7, none⟩ c7).setCell ⟨g, o + 8, none⟩ c8).setCell ⟨g, o + 9, none⟩ c9).setCell ⟨g, o + 10, none⟩ c10) := rfl
theorem setCs_18 (w : World) (g o : Nat) (c0 c1 c2 c3 c4 c5 c6 c7 c8 c9 c10 c11 c12 c13 c14 c15 c16 c17 : Value) : setCs w g o [c0, c1, c2, c3, c4, c5, c6, c7, c8, c9, c10, c11, c12, c13, c14, c15, c16, c17] = ((((((((((((((((((w.setCell ⟨g, o, none⟩ c0).setCell ⟨g, o + 1, none⟩ c1).setCell ⟨g, o + 2, none⟩ c2).setCell ⟨g, o + 3, none⟩ c3).setCell ⟨g, o + 4, none⟩ c4).setCell ⟨g, o + 5, none⟩ c5).setCell ⟨g, o + 6, none⟩ c6).setCell ⟨g, o + 7, none⟩ c7).setCell ⟨g, o + 8, none⟩ c8).setCell ⟨g, o + 9, none⟩ c9).setCell ⟨g, o + 10, none⟩ c10).setCell ⟨g, o + 11, none⟩ c11).setCell ⟨g, o + 12, none⟩ c12).setCell ⟨g, o + 13, none⟩ c13).setCell ⟨g, o + 14, none⟩ c14).setCell ⟨g, o + 15, none⟩ c15).setCell ⟨g, o + 16, none⟩ c16).setCell ⟨g, o + 17, none⟩ c17) := rfl
theorem sh_Vec {w : World} {cs : List Value} {x : QV} (h : tVec.at w cs x) : cs = [.int .i64 x.1, .int .i64 x.2] := by
  obtain ⟨c0, d0, rfl, h0, e0⟩ := at_prod h
  have h1 := e0; clear e0
  obtain rfl := sh_int h0
  obtain rfl := sh_int h1
  exact rfl
theorem el_Vec {w : World} {ao : Option Addr} {n cap : Nat} {l : List (QV)} (h : (tSlice tVec).at w [.slice ao n cap] l) {k : Nat} (hk : k < l.length) :
    ∃ (b off : Nat) (x : QV) , ao = some ⟨b, off, none⟩ ∧ b < w.heap.size ∧ l[k]? = some x ∧ tVec.at w [.int .i64 x.1, .int .i64 x.2] x ∧ w.cell? ⟨b, off + k * 2, none⟩ = some (.int .i64 x.1) ∧ w.cell? ⟨b, off + k * 2 + 1, none⟩ = some (.int .i64 x.2) := by
  obtain ⟨x, hx⟩ : ∃ x, l[k]? = some x := ⟨_, List.getElem?_eq_getElem hk⟩
  obtain ⟨b, off, c, rfl, hb, hc, hv⟩ := sl_el h hx
  obtain rfl := sh_Vec hc
  exact ⟨b, off, x, rfl, hb, hx, hc, hv 0 _ rfl, hv 1 _ rfl⟩
def wVecS (l : List QV) : Nat := l.length
theorem el_VecS {w : World} {ao : Option Addr} {n cap : Nat} {l : List (List QV)} (h : (tSlice tVecs).at w [.slice ao n cap] l) {k : Nat} (hk : k < l.length) :
    ∃ (b off : Nat) (x : List QV) (a0 : Option Addr) (n0 : Nat) (c0 : Nat), ao = some ⟨b, off, none⟩ ∧ b < w.heap.size ∧ l[k]? = some x ∧ tVecs.at w [.slice a0 n0 c0] x ∧ w.cell? ⟨b, off + k, none⟩ = some (.slice a0 n0 c0) := by
  obtain ⟨x, hx⟩ : ∃ x, l[k]? = some x := ⟨_, List.getElem?_eq_getElem hk⟩
  obtain ⟨b, off, c, rfl, hb, hc, hv⟩ := sl_el h hx
  obtain ⟨a0, n0, c0, rfl⟩ := sh_slice hc
  have h0 := hv 0 _ rfl
  exact ⟨b, off, x, a0, n0, c0, rfl, hb, hx, hc, by rwa [show off + k * tVecs.size + 0 = off + k from by show off + k * 1 + 0 = _; omega] at h0⟩
abbrev tVecSS := tSlice tVecs
def wVecSS (l : List (List QV)) : Nat := l.length + wsum wVecS l
def wIntS (l : List Int) : Nat := l.length
theorem el_IntS {w : World} {ao : Option Addr} {n cap : Nat} {l : List (List Int)} (h : (tSlice tInts).at w [.slice ao n cap] l) {k : Nat} (hk : k < l.length) :
    ∃ (b off : Nat) (x : List Int) (a0 : Option Addr) (n0 : Nat) (c0 : Nat), ao = some ⟨b, off, none⟩ ∧ b < w.heap.size ∧ l[k]? = some x ∧ tInts.at w [.slice a0 n0 c0] x ∧ w.cell? ⟨b, off + k, none⟩ = some (.slice a0 n0 c0) := by
  obtain ⟨x, hx⟩ : ∃ x, l[k]? = some x := ⟨_, List.getElem?_eq_getElem hk⟩
  obtain ⟨b, off, c, rfl, hb, hc, hv⟩ := sl_el h hx
  obtain ⟨a0, n0, c0, rfl⟩ := sh_slice hc
  have h0 := hv 0 _ rfl
  exact ⟨b, off, x, a0, n0, c0, rfl, hb, hx, hc, by rwa [show off + k * tInts.size + 0 = off + k from by show off + k * 1 + 0 = _; omega] at h0⟩
abbrev tIntSS := tSlice tInts
def wIntSS (l : List (List Int)) : Nat := l.length + wsum wIntS l
def wBigInt (x : Bool × List Int) : Nat := wIntS x.2
theorem sh_BigInt {w : World} {cs : List Value} {x : Bool × List Int} (h : tBig.at w cs x) : ∃ (a1 : Option Addr) (n1 : Nat) (c1 : Nat), cs = [.bool x.1, .slice a1 n1 c1] := by
  obtain ⟨c0, d0, rfl, h0, e0⟩ := at_prod h
  have h1 := e0; clear e0
  obtain rfl := sh_bool h0
  obtain ⟨z1a0, z1n0, z1c0, rfl⟩ := sh_slice h1
  exact ⟨_, _, _, rfl⟩
theorem el_BigInt {w : World} {ao : Option Addr} {n cap : Nat} {l : List (Bool × List Int)} (h : (tSlice tBig).at w [.slice ao n cap] l) {k : Nat} (hk : k < l.length) :
    ∃ (b off : Nat) (x : Bool × List Int) (a1 : Option Addr) (n1 : Nat) (c1 : Nat), ao = some ⟨b, off, none⟩ ∧ b < w.heap.size ∧ l[k]? = some x ∧ tBig.at w [.bool x.1, .slice a1 n1 c1] x ∧ w.cell? ⟨b, off + k * 2, none⟩ = some (.bool x.1) ∧ w.cell? ⟨b, off + k * 2 + 1, none⟩ = some (.slice a1 n1 c1) := by
  obtain ⟨x, hx⟩ : ∃ x, l[k]? = some x := ⟨_, List.getElem?_eq_getElem hk⟩
  obtain ⟨b, off, c, rfl, hb, hc, hv⟩ := sl_el h hx
  obtain ⟨a1, n1, c1, rfl⟩ := sh_BigInt hc
  exact ⟨b, off, x, a1, n1, c1, rfl, hb, hx, hc, hv 0 _ rfl, hv 1 _ rfl⟩
def wRat (x : QR) : Nat := wBigInt x.1 + wIntS x.2
theorem sh_Rat {w : World} {cs : List Value} {x : QR} (h : tRat.at w cs x) : ∃ (a1 : Option Addr) (n1 : Nat) (c1 : Nat) (a2 : Option Addr) (n2 : Nat) (c2 : Nat), cs = [.bool x.1.1, .slice a1 n1 c1, .slice a2 n2 c2] := by
  obtain ⟨c0, d0, rfl, h0, e0⟩ := at_prod h
  have h1 := e0; clear e0
  obtain ⟨z0a1, z0n1, z0c1, rfl⟩ := sh_BigInt h0
  obtain ⟨z1a0, z1n0, z1c0, rfl⟩ := sh_slice h1
  exact ⟨_, _, _, _, _, _, rfl⟩
theorem el_Rat {w : World} {ao : Option Addr} {n cap : Nat} {l : List (QR)} (h : (tSlice tRat).at w [.slice ao n cap] l) {k : Nat} (hk : k < l.length) :
    ∃ (b off : Nat) (x : QR) (a1 : Option Addr) (n1 : Nat) (c1 : Nat) (a2 : Option Addr) (n2 : Nat) (c2 : Nat), ao = some ⟨b, off, none⟩ ∧ b < w.heap.size ∧ l[k]? = some x ∧ tRat.at w [.bool x.1.1, .slice a1 n1 c1, .slice a2 n2 c2] x ∧ w.cell? ⟨b, off + k * 3, none⟩ = some (.bool x.1.1) ∧ w.cell? ⟨b, off + k * 3 + 1, none⟩ = some (.slice a1 n1 c1) ∧ w.cell? ⟨b, off + k * 3 + 2, none⟩ = some (.slice a2 n2 c2) := by
  obtain ⟨x, hx⟩ : ∃ x, l[k]? = some x := ⟨_, List.getElem?_eq_getElem hk⟩
  obtain ⟨b, off, c, rfl, hb, hc, hv⟩ := sl_el h hx
  obtain ⟨a1, n1, c1, a2, n2, c2, rfl⟩ := sh_Rat hc
  exact ⟨b, off, x, a1, n1, c1, a2, n2, c2, rfl, hb, hx, hc, hv 0 _ rfl, hv 1 _ rfl, hv 2 _ rfl⟩
abbrev tRatS := tSlice tRat
def wRatS (l : List (QR)) : Nat := l.length + wsum wRat l
def wPoint (x : QP) : Nat := wRat x.1 + wRat x.2
theorem sh_Point {w : World} {cs : List Value} {x : QP} (h : tPoint.at w cs x) : ∃ (a1 : Option Addr) (n1 : Nat) (c1 : Nat) (a2 : Option Addr) (n2 : Nat) (c2 : Nat) (a4 : Option Addr) (n4 : Nat) (c4 : Nat) (a5 : Option Addr) (n5 : Nat) (c5 : Nat), cs = [.bool x.1.1.1, .slice a1 n1 c1, .slice a2 n2 c2, .bool x.2.1.1, .slice a4 n4 c4, .slice a5 n5 c5] := by
  obtain ⟨c0, d0, rfl, h0, e0⟩ := at_prod h
  have h1 := e0; clear e0
  obtain ⟨z0a1, z0n1, z0c1, z0a2, z0n2, z0c2, rfl⟩ := sh_Rat h0
  obtain ⟨z1a1, z1n1, z1c1, z1a2, z1n2, z1c2, rfl⟩ := sh_Rat h1
  exact ⟨_, _, _, _, _, _, _, _, _, _, _, _, rfl⟩
theorem el_Point {w : World} {ao : Option Addr} {n cap : Nat} {l : List (QP)} (h : (tSlice tPoint).at w [.slice ao n cap] l) {k : Nat} (hk : k < l.length) :
    ∃ (b off : Nat) (x : QP) (a1 : Option Addr) (n1 : Nat) (c1 : Nat) (a2 : Option Addr) (n2 : Nat) (c2 : Nat) (a4 : Option Addr) (n4 : Nat) (c4 : Nat) (a5 : Option Addr) (n5 : Nat) (c5 : Nat), ao = some ⟨b, off, none⟩ ∧ b < w.heap.size ∧ l[k]? = some x ∧ tPoint.at w [.bool x.1.1.1, .slice a1 n1 c1, .slice a2 n2 c2, .bool x.2.1.1, .slice a4 n4 c4, .slice a5 n5 c5] x ∧ w.cell? ⟨b, off + k * 6, none⟩ = some (.bool x.1.1.1) ∧ w.cell? ⟨b, off + k * 6 + 1, none⟩ = some (.slice a1 n1 c1) ∧ w.cell? ⟨b, off + k * 6 + 2, none⟩ = some (.slice a2 n2 c2) ∧ w.cell? ⟨b, off + k * 6 + 3, none⟩ = some (.bool x.2.1.1) ∧ w.cell? ⟨b, off + k * 6 + 4, none⟩ = some (.slice a4 n4 c4) ∧ w.cell? ⟨b, off + k * 6 + 5, none⟩ = some (.slice a5 n5 c5) := by
  obtain ⟨x, hx⟩ : ∃ x, l[k]? = some x := ⟨_, List.getElem?_eq_getElem hk⟩
  obtain ⟨b, off, c, rfl, hb, hc, hv⟩ := sl_el h hx
  obtain ⟨a1, n1, c1, a2, n2, c2, a4, n4, c4, a5, n5, c5, rfl⟩ := sh_Point hc
  exact ⟨b, off, x, a1, n1, c1, a2, n2, c2, a4, n4, c4, a5, n5, c5, rfl, hb, hx, hc, hv 0 _ rfl, hv 1 _ rfl, hv 2 _ rfl, hv 3 _ rfl, hv 4 _ rfl, hv 5 _ rfl⟩
abbrev tPointS := tSlice tPoint
def wPointS (l : List (QP)) : Nat := l.length + wsum wPoint l
theorem sh_Edge {w : World} {cs : List Value} {x : QE} (h : tEdge.at w cs x) : cs = [.int .i64 x.1.1, .int .i64 x.1.2, .int .i64 x.2.1.1, .int .i64 x.2.1.2, .int .i64 x.2.2.1, .bool x.2.2.2] := by
  obtain ⟨c0, d0, rfl, h0, e0⟩ := at_prod h
  obtain ⟨c1, d1, rfl, h1, e1⟩ := at_prod e0
  obtain ⟨c2, d2, rfl, h2, e2⟩ := at_prod e1
  have h3 := e2; clear e2
  obtain rfl := sh_Vec h0
  obtain rfl := sh_Vec h1
  obtain rfl := sh_int h2
  obtain rfl := sh_bool h3
  exact rfl
theorem el_Edge {w : World} {ao : Option Addr} {n cap : Nat} {l : List (QE)} (h : (tSlice tEdge).at w [.slice ao n cap] l) {k : Nat} (hk : k < l.length) :
    ∃ (b off : Nat) (x : QE) , ao = some ⟨b, off, none⟩ ∧ b < w.heap.size ∧ l[k]? = some x ∧ tEdge.at w [.int .i64 x.1.1, .int .i64 x.1.2, .int .i64 x.2.1.1, .int .i64 x.2.1.2, .int .i64 x.2.2.1, .bool x.2.2.2] x ∧ w.cell? ⟨b, off + k * 6, none⟩ = some (.int .i64 x.1.1) ∧ w.cell? ⟨b, off + k * 6 + 1, none⟩ = some (.int .i64 x.1.2) ∧ w.cell? ⟨b, off + k * 6 + 2, none⟩ = some (.int .i64 x.2.1.1) ∧ w.cell? ⟨b, off + k * 6 + 3, none⟩ = some (.int .i64 x.2.1.2) ∧ w.cell? ⟨b, off + k * 6 + 4, none⟩ = some (.int .i64 x.2.2.1) ∧ w.cell? ⟨b, off + k * 6 + 5, none⟩ = some (.bool x.2.2.2) := by
  obtain ⟨x, hx⟩ : ∃ x, l[k]? = some x := ⟨_, List.getElem?_eq_getElem hk⟩
  obtain ⟨b, off, c, rfl, hb, hc, hv⟩ := sl_el h hx
  obtain rfl := sh_Edge hc
  exact ⟨b, off, x, rfl, hb, hx, hc, hv 0 _ rfl, hv 1 _ rfl, hv 2 _ rfl, hv 3 _ rfl, hv 4 _ rfl, hv 5 _ rfl⟩
abbrev tEdgeS := tSlice tEdge
def wEdgeS (l : List (QE)) : Nat := l.length
abbrev QBox := QV × QV
abbrev tBox : Ty QBox := tProd tVec (tVec)
def fBox : Flat tBox := fProd fVec (fVec)
theorem sh_Box {w : World} {cs : List Value} {x : QBox} (h : tBox.at w cs x) : cs = [.int .i64 x.1.1, .int .i64 x.1.2, .int .i64 x.2.1, .int .i64 x.2.2] := by
  obtain ⟨c0, d0, rfl, h0, e0⟩ := at_prod h
  have h1 := e0; clear e0
  obtain rfl := sh_Vec h0
  obtain rfl := sh_Vec h1
  exact rfl
theorem el_Box {w : World} {ao : Option Addr} {n cap : Nat} {l : List (QBox)} (h : (tSlice tBox).at w [.slice ao n cap] l) {k : Nat} (hk : k < l.length) :
    ∃ (b off : Nat) (x : QBox) , ao = some ⟨b, off, none⟩ ∧ b < w.heap.size ∧ l[k]? = some x ∧ tBox.at w [.int .i64 x.1.1, .int .i64 x.1.2, .int .i64 x.2.1, .int .i64 x.2.2] x ∧ w.cell? ⟨b, off + k * 4, none⟩ = some (.int .i64 x.1.1) ∧ w.cell? ⟨b, off + k * 4 + 1, none⟩ = some (.int .i64 x.1.2) ∧ w.cell? ⟨b, off + k * 4 + 2, none⟩ = some (.int .i64 x.2.1) ∧ w.cell? ⟨b, off + k * 4 + 3, none⟩ = some (.int .i64 x.2.2) := by
  obtain ⟨x, hx⟩ : ∃ x, l[k]? = some x := ⟨_, List.getElem?_eq_getElem hk⟩
  obtain ⟨b, off, c, rfl, hb, hc, hv⟩ := sl_el h hx
  obtain rfl := sh_Box hc
  exact ⟨b, off, x, rfl, hb, hx, hc, hv 0 _ rfl, hv 1 _ rfl, hv 2 _ rfl, hv 3 _ rfl⟩
abbrev QScene := QV × QV × (List QV) × (List (List QV)) × (List QV)
abbrev tScene : Ty QScene := tProd tVec (tProd tVec (tProd tVecs (tProd tVecSS (tVecs))))
def wScene (x : QScene) : Nat := wVecS x.2.2.1 + wVecSS x.2.2.2.1 + wVecS x.2.2.2.2
theorem sh_Scene {w : World} {cs : List Value} {x : QScene} (h : tScene.at w cs x) : ∃ (a4 : Option Addr) (n4 : Nat) (c4 : Nat) (a5 : Option Addr) (n5 : Nat) (c5 : Nat) (a6 : Option Addr) (n6 : Nat) (c6 : Nat), cs = [.int .i64 x.1.1, .int .i64 x.1.2, .int .i64 x.2.1.1, .int .i64 x.2.1.2, .slice a4 n4 c4, .slice a5 n5 c5, .slice a6 n6 c6] := by
  obtain ⟨c0, d0, rfl, h0, e0⟩ := at_prod h
  obtain ⟨c1, d1, rfl, h1, e1⟩ := at_prod e0
  obtain ⟨c2, d2, rfl, h2, e2⟩ := at_prod e1
  obtain ⟨c3, d3, rfl, h3, e3⟩ := at_prod e2
  have h4 := e3; clear e3
  obtain rfl := sh_Vec h0
  obtain rfl := sh_Vec h1
  obtain ⟨z2a0, z2n0, z2c0, rfl⟩ := sh_slice h2
  obtain ⟨z3a0, z3n0, z3c0, rfl⟩ := sh_slice h3
  obtain ⟨z4a0, z4n0, z4c0, rfl⟩ := sh_slice h4
  exact ⟨_, _, _, _, _, _, _, _, _, rfl⟩
theorem el_Scene {w : World} {ao : Option Addr} {n cap : Nat} {l : List (QScene)} (h : (tSlice tScene).at w [.slice ao n cap] l) {k : Nat} (hk : k < l.length) :
    ∃ (b off : Nat) (x : QScene) (a4 : Option Addr) (n4 : Nat) (c4 : Nat) (a5 : Option Addr) (n5 : Nat) (c5 : Nat) (a6 : Option Addr) (n6 : Nat) (c6 : Nat), ao = some ⟨b, off, none⟩ ∧ b < w.heap.size ∧ l[k]? = some x ∧ tScene.at w [.int .i64 x.1.1, .int .i64 x.1.2, .int .i64 x.2.1.1, .int .i64 x.2.1.2, .slice a4 n4 c4, .slice a5 n5 c5, .slice a6 n6 c6] x ∧ w.cell? ⟨b, off + k * 7, none⟩ = some (.int .i64 x.1.1) ∧ w.cell? ⟨b, off + k * 7 + 1, none⟩ = some (.int .i64 x.1.2) ∧ w.cell? ⟨b, off + k * 7 + 2, none⟩ = some (.int .i64 x.2.1.1) ∧ w.cell? ⟨b, off + k * 7 + 3, none⟩ = some (.int .i64 x.2.1.2) ∧ w.cell? ⟨b, off + k * 7 + 4, none⟩ = some (.slice a4 n4 c4) ∧ w.cell? ⟨b, off + k * 7 + 5, none⟩ = some (.slice a5 n5 c5) ∧ w.cell? ⟨b, off + k * 7 + 6, none⟩ = some (.slice a6 n6 c6) := by
  obtain ⟨x, hx⟩ : ∃ x, l[k]? = some x := ⟨_, List.getElem?_eq_getElem hk⟩
  obtain ⟨b, off, c, rfl, hb, hc, hv⟩ := sl_el h hx
  obtain ⟨a4, n4, c4, a5, n5, c5, a6, n6, c6, rfl⟩ := sh_Scene hc
  exact ⟨b, off, x, a4, n4, c4, a5, n5, c5, a6, n6, c6, rfl, hb, hx, hc, hv 0 _ rfl, hv 1 _ rfl, hv 2 _ rfl, hv 3 _ rfl, hv 4 _ rfl, hv 5 _ rfl, hv 6 _ rfl⟩
abbrev QStep := Int × QP
abbrev tStep : Ty QStep := tProd tInt (tPoint)
def wStep (x : QStep) : Nat := wPoint x.2
theorem sh_Step {w : World} {cs : List Value} {x : QStep} (h : tStep.at w cs x) : ∃ (a2 : Option Addr) (n2 : Nat) (c2 : Nat) (a3 : Option Addr) (n3 : Nat) (c3 : Nat) (a5 : Option Addr) (n5 : Nat) (c5 : Nat) (a6 : Option Addr) (n6 : Nat) (c6 : Nat), cs = [.int .i64 x.1, .bool x.2.1.1.1, .slice a2 n2 c2, .slice a3 n3 c3, .bool x.2.2.1.1, .slice a5 n5 c5, .slice a6 n6 c6] := by
  obtain ⟨c0, d0, rfl, h0, e0⟩ := at_prod h
  have h1 := e0; clear e0
  obtain rfl := sh_int h0
  obtain ⟨z1a1, z1n1, z1c1, z1a2, z1n2, z1c2, z1a4, z1n4, z1c4, z1a5, z1n5, z1c5, rfl⟩ := sh_Point h1
  exact ⟨_, _, _, _, _, _, _, _, _, _, _, _, rfl⟩
theorem el_Step {w : World} {ao : Option Addr} {n cap : Nat} {l : List (QStep)} (h : (tSlice tStep).at w [.slice ao n cap] l) {k : Nat} (hk : k < l.length) :
    ∃ (b off : Nat) (x : QStep) (a2 : Option Addr) (n2 : Nat) (c2 : Nat) (a3 : Option Addr) (n3 : Nat) (c3 : Nat) (a5 : Option Addr) (n5 : Nat) (c5 : Nat) (a6 : Option Addr) (n6 : Nat) (c6 : Nat), ao = some ⟨b, off, none⟩ ∧ b < w.heap.size ∧ l[k]? = some x ∧ tStep.at w [.int .i64 x.1, .bool x.2.1.1.1, .slice a2 n2 c2, .slice a3 n3 c3, .bool x.2.2.1.1, .slice a5 n5 c5, .slice a6 n6 c6] x ∧ w.cell? ⟨b, off + k * 7, none⟩ = some (.int .i64 x.1) ∧ w.cell? ⟨b, off + k * 7 + 1, none⟩ = some (.bool x.2.1.1.1) ∧ w.cell? ⟨b, off + k * 7 + 2, none⟩ = some (.slice a2 n2 c2) ∧ w.cell? ⟨b, off + k * 7 + 3, none⟩ = some (.slice a3 n3 c3) ∧ w.cell? ⟨b, off + k * 7 + 4, none⟩ = some (.bool x.2.2.1.1) ∧ w.cell? ⟨b, off + k * 7 + 5, none⟩ = some (.slice a5 n5 c5) ∧ w.cell? ⟨b, off + k * 7 + 6, none⟩ = some (.slice a6 n6 c6) := by
  obtain ⟨x, hx⟩ : ∃ x, l[k]? = some x := ⟨_, List.getElem?_eq_getElem hk⟩
  obtain ⟨b, off, c, rfl, hb, hc, hv⟩ := sl_el h hx
  obtain ⟨a2, n2, c2, a3, n3, c3, a5, n5, c5, a6, n6, c6, rfl⟩ := sh_Step hc
  exact ⟨b, off, x, a2, n2, c2, a3, n3, c3, a5, n5, c5, a6, n6, c6, rfl, hb, hx, hc, hv 0 _ rfl, hv 1 _ rfl, hv 2 _ rfl, hv 3 _ rfl, hv 4 _ rfl, hv 5 _ rfl, hv 6 _ rfl⟩
abbrev tStepS := tSlice tStep
def wStepS (l : List (QStep)) : Nat := l.length + wsum wStep l
abbrev QPlacement := Int × QP
abbrev tPlacement : Ty QPlacement := tProd tInt (tPoint)
def wPlacement (x : QPlacement) : Nat := wPoint x.2
theorem sh_Placement {w : World} {cs : List Value} {x : QPlacement} (h : tPlacement.at w cs x) : ∃ (a2 : Option Addr) (n2 : Nat) (c2 : Nat) (a3 : Option Addr) (n3 : Nat) (c3 : Nat) (a5 : Option Addr) (n5 : Nat) (c5 : Nat) (a6 : Option Addr) (n6 : Nat) (c6 : Nat), cs = [.int .i64 x.1, .bool x.2.1.1.1, .slice a2 n2 c2, .slice a3 n3 c3, .bool x.2.2.1.1, .slice a5 n5 c5, .slice a6 n6 c6] := by
  obtain ⟨c0, d0, rfl, h0, e0⟩ := at_prod h
  have h1 := e0; clear e0
  obtain rfl := sh_int h0
  obtain ⟨z1a1, z1n1, z1c1, z1a2, z1n2, z1c2, z1a4, z1n4, z1c4, z1a5, z1n5, z1c5, rfl⟩ := sh_Point h1
  exact ⟨_, _, _, _, _, _, _, _, _, _, _, _, rfl⟩
theorem el_Placement {w : World} {ao : Option Addr} {n cap : Nat} {l : List (QPlacement)} (h : (tSlice tPlacement).at w [.slice ao n cap] l) {k : Nat} (hk : k < l.length) :
    ∃ (b off : Nat) (x : QPlacement) (a2 : Option Addr) (n2 : Nat) (c2 : Nat) (a3 : Option Addr) (n3 : Nat) (c3 : Nat) (a5 : Option Addr) (n5 : Nat) (c5 : Nat) (a6 : Option Addr) (n6 : Nat) (c6 : Nat), ao = some ⟨b, off, none⟩ ∧ b < w.heap.size ∧ l[k]? = some x ∧ tPlacement.at w [.int .i64 x.1, .bool x.2.1.1.1, .slice a2 n2 c2, .slice a3 n3 c3, .bool x.2.2.1.1, .slice a5 n5 c5, .slice a6 n6 c6] x ∧ w.cell? ⟨b, off + k * 7, none⟩ = some (.int .i64 x.1) ∧ w.cell? ⟨b, off + k * 7 + 1, none⟩ = some (.bool x.2.1.1.1) ∧ w.cell? ⟨b, off + k * 7 + 2, none⟩ = some (.slice a2 n2 c2) ∧ w.cell? ⟨b, off + k * 7 + 3, none⟩ = some (.slice a3 n3 c3) ∧ w.cell? ⟨b, off + k * 7 + 4, none⟩ = some (.bool x.2.2.1.1) ∧ w.cell? ⟨b, off + k * 7 + 5, none⟩ = some (.slice a5 n5 c5) ∧ w.cell? ⟨b, off + k * 7 + 6, none⟩ = some (.slice a6 n6 c6) := by
  obtain ⟨x, hx⟩ : ∃ x, l[k]? = some x := ⟨_, List.getElem?_eq_getElem hk⟩
  obtain ⟨b, off, c, rfl, hb, hc, hv⟩ := sl_el h hx
  obtain ⟨a2, n2, c2, a3, n3, c3, a5, n5, c5, a6, n6, c6, rfl⟩ := sh_Placement hc
  exact ⟨b, off, x, a2, n2, c2, a3, n3, c3, a5, n5, c5, a6, n6, c6, rfl, hb, hx, hc, hv 0 _ rfl, hv 1 _ rfl, hv 2 _ rfl, hv 3 _ rfl, hv 4 _ rfl, hv 5 _ rfl, hv 6 _ rfl⟩
abbrev QCell := QR × QR × QR × QR × QR × QR
abbrev tCell : Ty QCell := tProd tRat (tProd tRat (tProd tRat (tProd tRat (tProd tRat (tRat)))))
def wCell (x : QCell) : Nat := wRat x.1 + wRat x.2.1 + wRat x.2.2.1 + wRat x.2.2.2.1 + wRat x.2.2.2.2.1 + wRat x.2.2.2.2.2
theorem sh_Cell {w : World} {cs : List Value} {x : QCell} (h : tCell.at w cs x) : ∃ (a1 : Option Addr) (n1 : Nat) (c1 : Nat) (a2 : Option Addr) (n2 : Nat) (c2 : Nat) (a4 : Option Addr) (n4 : Nat) (c4 : Nat) (a5 : Option Addr) (n5 : Nat) (c5 : Nat) (a7 : Option Addr) (n7 : Nat) (c7 : Nat) (a8 : Option Addr) (n8 : Nat) (c8 : Nat) (a10 : Option Addr) (n10 : Nat) (c10 : Nat) (a11 : Option Addr) (n11 : Nat) (c11 : Nat) (a13 : Option Addr) (n13 : Nat) (c13 : Nat) (a14 : Option Addr) (n14 : Nat) (c14 : Nat) (a16 : Option Addr) (n16 : Nat) (c16 : Nat) (a17 : Option Addr) (n17 : Nat) (c17 : Nat), cs = [.bool x.1.1.1, .slice a1 n1 c1, .slice a2 n2 c2, .bool x.2.1.1.1, .slice a4 n4 c4, .slice a5 n5 c5, .bool x.2.2.1.1.1, .slice a7 n7 c7, .slice a8 n8 c8, .bool x.2.2.2.1.1.1, .slice a10 n10 c10, .slice a11 n11 c11, .bool x.2.2.2.2.1.1.1, .slice a13 n13 c13, .slice a14 n14 c14, .bool x.2.2.2.2.2.1.1, .slice a16 n16 c16, .slice a17 n17 c17] := by
  obtain ⟨c0, d0, rfl, h0, e0⟩ := at_prod h
  obtain ⟨c1, d1, rfl, h1, e1⟩ := at_prod e0
  obtain ⟨c2, d2, rfl, h2, e2⟩ := at_prod e1
  obtain ⟨c3, d3, rfl, h3, e3⟩ := at_prod e2
  obtain ⟨c4, d4, rfl, h4, e4⟩ := at_prod e3
  have h5 := e4; clear e4
  obtain ⟨z0a1, z0n1, z0c1, z0a2, z0n2, z0c2, rfl⟩ := sh_Rat h0
  obtain ⟨z1a1, z1n1, z1c1, z1a2, z1n2, z1c2, rfl⟩ := sh_Rat h1
  obtain ⟨z2a1, z2n1, z2c1, z2a2, z2n2, z2c2, rfl⟩ := sh_Rat h2
  obtain ⟨z3a1, z3n1, z3c1, z3a2, z3n2, z3c2, rfl⟩ := sh_Rat h3
  obtain ⟨z4a1, z4n1, z4c1, z4a2, z4n2, z4c2, rfl⟩ := sh_Rat h4
  obtain ⟨z5a1, z5n1, z5c1, z5a2, z5n2, z5c2, rfl⟩ := sh_Rat h5
  exact ⟨_, _, _, _, _, _, _, _, _, _, _, _, _, _, _, _, _, _, _, _, _, _, _, _, _, _, _, _, _, _, _, _, _, _, _, _, rfl⟩
theorem el_Cell {w : World} {ao : Option Addr} {n cap : Nat} {l : List (QCell)} (h : (tSlice tCell).at w [.slice ao n cap] l) {k : Nat} (hk : k < l.length) :
    ∃ (b off : Nat) (x : QCell) (a1 : Option Addr) (n1 : Nat) (c1 : Nat) (a2 : Option Addr) (n2 : Nat) (c2 : Nat) (a4 : Option Addr) (n4 : Nat) (c4 : Nat) (a5 : Option Addr) (n5 : Nat) (c5 : Nat) (a7 : Option Addr) (n7 : Nat) (c7 : Nat) (a8 : Option Addr) (n8 : Nat) (c8 : Nat) (a10 : Option Addr) (n10 : Nat) (c10 : Nat) (a11 : Option Addr) (n11 : Nat) (c11 : Nat) (a13 : Option Addr) (n13 : Nat) (c13 : Nat) (a14 : Option Addr) (n14 : Nat) (c14 : Nat) (a16 : Option Addr) (n16 : Nat) (c16 : Nat) (a17 : Option Addr) (n17 : Nat) (c17 : Nat), ao = some ⟨b, off, none⟩ ∧ b < w.heap.size ∧ l[k]? = some x ∧ tCell.at w [.bool x.1.1.1, .slice a1 n1 c1, .slice a2 n2 c2, .bool x.2.1.1.1, .slice a4 n4 c4, .slice a5 n5 c5, .bool x.2.2.1.1.1, .slice a7 n7 c7, .slice a8 n8 c8, .bool x.2.2.2.1.1.1, .slice a10 n10 c10, .slice a11 n11 c11, .bool x.2.2.2.2.1.1.1, .slice a13 n13 c13, .slice a14 n14 c14, .bool x.2.2.2.2.2.1.1, .slice a16 n16 c16, .slice a17 n17 c17] x ∧ w.cell? ⟨b, off + k * 18, none⟩ = some (.bool x.1.1.1) ∧ w.cell? ⟨b, off + k * 18 + 1, none⟩ = some (.slice a1 n1 c1) ∧ w.cell? ⟨b, off + k * 18 + 2, none⟩ = some (.slice a2 n2 c2) ∧ w.cell? ⟨b, off + k * 18 + 3, none⟩ = some (.bool x.2.1.1.1) ∧ w.cell? ⟨b, off + k * 18 + 4, none⟩ = some (.slice a4 n4 c4) ∧ w.cell? ⟨b, off + k * 18 + 5, none⟩ = some (.slice a5 n5 c5) ∧ w.cell? ⟨b, off + k * 18 + 6, none⟩ = some (.bool x.2.2.1.1.1) ∧ w.cell? ⟨b, off + k * 18 + 7, none⟩ = some (.slice a7 n7 c7) ∧ w.cell? ⟨b, off + k * 18 + 8, none⟩ = some (.slice a8 n8 c8) ∧ w.cell? ⟨b, off + k * 18 + 9, none⟩ = some (.bool x.2.2.2.1.1.1) ∧ w.cell? ⟨b, off + k * 18 + 10, none⟩ = some (.slice a10 n10 c10) ∧ w.cell? ⟨b, off + k * 18 + 11, none⟩ = some (.slice a11 n11 c11) ∧ w.cell? ⟨b, off + k * 18 + 12, none⟩ = some (.bool x.2.2.2.2.1.1.1) ∧ w.cell? ⟨b, off + k * 18 + 13, none⟩ = some (.slice a13 n13 c13) ∧ w.cell? ⟨b, off + k * 18 + 14, none⟩ = some (.slice a14 n14 c14) ∧ w.cell? ⟨b, off + k * 18 + 15, none⟩ = some (.bool x.2.2.2.2.2.1.1) ∧ w.cell? ⟨b, off + k * 18 + 16, none⟩ = some (.slice a16 n16 c16) ∧ w.cell? ⟨b, off + k * 18 + 17, none⟩ = some (.slice a17 n17 c17) := by
  obtain ⟨x, hx⟩ : ∃ x, l[k]? = some x := ⟨_, List.getElem?_eq_getElem hk⟩
  obtain ⟨b, off, c, rfl, hb, hc, hv⟩ := sl_el h hx
  obtain ⟨a1, n1, c1, a2, n2, c2, a4, n4, c4, a5, n5, c5, a7, n7, c7, a8, n8, c8, a10, n10, c10, a11, n11, c11, a13, n13, c13, a14, n14, c14, a16, n16, c16, a17, n17, c17, rfl⟩ := sh_Cell hc
  exact ⟨b, off, x, a1, n1, c1, a2, n2, c2, a4, n4, c4, a5, n5, c5, a7, n7, c7, a8, n8, c8, a10, n10, c10, a11, n11, c11, a13, n13, c13, a14, n14, c14, a16, n16, c16, a17, n17, c17, rfl, hb, hx, hc, hv 0 _ rfl, hv 1 _ rfl, hv 2 _ rfl, hv 3 _ rfl, hv 4 _ rfl, hv 5 _ rfl, hv 6 _ rfl, hv 7 _ rfl, hv 8 _ rfl, hv 9 _ rfl, hv 10 _ rfl, hv 11 _ rfl, hv 12 _ rfl, hv 13 _ rfl, hv 14 _ rfl, hv 15 _ rfl, hv 16 _ rfl, hv 17 _ rfl⟩
abbrev tCellS := tSlice tCell
def wCellS (l : List (QCell)) : Nat := l.length + wsum wCell l
abbrev QWall := QR × QR × QR
abbrev tWall : Ty QWall := tProd tRat (tProd tRat (tRat))
def wWall (x : QWall) : Nat := wRat x.1 + wRat x.2.1 + wRat x.2.2
theorem sh_Wall {w : World} {cs : List Value} {x : QWall} (h : tWall.at w cs x) : ∃ (a1 : Option Addr) (n1 : Nat) (c1 : Nat) (a2 : Option Addr) (n2 : Nat) (c2 : Nat) (a4 : Option Addr) (n4 : Nat) (c4 : Nat) (a5 : Option Addr) (n5 : Nat) (c5 : Nat) (a7 : Option Addr) (n7 : Nat) (c7 : Nat) (a8 : Option Addr) (n8 : Nat) (c8 : Nat), cs = [.bool x.1.1.1, .slice a1 n1 c1, .slice a2 n2 c2, .bool x.2.1.1.1, .slice a4 n4 c4, .slice a5 n5 c5, .bool x.2.2.1.1, .slice a7 n7 c7, .slice a8 n8 c8] := by
  obtain ⟨c0, d0, rfl, h0, e0⟩ := at_prod h
  obtain ⟨c1, d1, rfl, h1, e1⟩ := at_prod e0
  have h2 := e1; clear e1
  obtain ⟨z0a1, z0n1, z0c1, z0a2, z0n2, z0c2, rfl⟩ := sh_Rat h0
  obtain ⟨z1a1, z1n1, z1c1, z1a2, z1n2, z1c2, rfl⟩ := sh_Rat h1
  obtain ⟨z2a1, z2n1, z2c1, z2a2, z2n2, z2c2, rfl⟩ := sh_Rat h2
  exact ⟨_, _, _, _, _, _, _, _, _, _, _, _, _, _, _, _, _, _, rfl⟩
theorem el_Wall {w : World} {ao : Option Addr} {n cap : Nat} {l : List (QWall)} (h : (tSlice tWall).at w [.slice ao n cap] l) {k : Nat} (hk : k < l.length) :
    ∃ (b off : Nat) (x : QWall) (a1 : Option Addr) (n1 : Nat) (c1 : Nat) (a2 : Option Addr) (n2 : Nat) (c2 : Nat) (a4 : Option Addr) (n4 : Nat) (c4 : Nat) (a5 : Option Addr) (n5 : Nat) (c5 : Nat) (a7 : Option Addr) (n7 : Nat) (c7 : Nat) (a8 : Option Addr) (n8 : Nat) (c8 : Nat), ao = some ⟨b, off, none⟩ ∧ b < w.heap.size ∧ l[k]? = some x ∧ tWall.at w [.bool x.1.1.1, .slice a1 n1 c1, .slice a2 n2 c2, .bool x.2.1.1.1, .slice a4 n4 c4, .slice a5 n5 c5, .bool x.2.2.1.1, .slice a7 n7 c7, .slice a8 n8 c8] x ∧ w.cell? ⟨b, off + k * 9, none⟩ = some (.bool x.1.1.1) ∧ w.cell? ⟨b, off + k * 9 + 1, none⟩ = some (.slice a1 n1 c1) ∧ w.cell? ⟨b, off + k * 9 + 2, none⟩ = some (.slice a2 n2 c2) ∧ w.cell? ⟨b, off + k * 9 + 3, none⟩ = some (.bool x.2.1.1.1) ∧ w.cell? ⟨b, off + k * 9 + 4, none⟩ = some (.slice a4 n4 c4) ∧ w.cell? ⟨b, off + k * 9 + 5, none⟩ = some (.slice a5 n5 c5) ∧ w.cell? ⟨b, off + k * 9 + 6, none⟩ = some (.bool x.2.2.1.1) ∧ w.cell? ⟨b, off + k * 9 + 7, none⟩ = some (.slice a7 n7 c7) ∧ w.cell? ⟨b, off + k * 9 + 8, none⟩ = some (.slice a8 n8 c8) := by
  obtain ⟨x, hx⟩ : ∃ x, l[k]? = some x := ⟨_, List.getElem?_eq_getElem hk⟩
  obtain ⟨b, off, c, rfl, hb, hc, hv⟩ := sl_el h hx
  obtain ⟨a1, n1, c1, a2, n2, c2, a4, n4, c4, a5, n5, c5, a7, n7, c7, a8, n8, c8, rfl⟩ := sh_Wall hc
  exact ⟨b, off, x, a1, n1, c1, a2, n2, c2, a4, n4, c4, a5, n5, c5, a7, n7, c7, a8, n8, c8, rfl, hb, hx, hc, hv 0 _ rfl, hv 1 _ rfl, hv 2 _ rfl, hv 3 _ rfl, hv 4 _ rfl, hv 5 _ rfl, hv 6 _ rfl, hv 7 _ rfl, hv 8 _ rfl⟩
abbrev tWallS := tSlice tWall
def wWallS (l : List (QWall)) : Nat := l.length + wsum wWall l
abbrev QDoor := Int × Int
abbrev tDoor : Ty QDoor := tProd tInt (tInt)
def fDoor : Flat tDoor := fProd fInt (fInt)
theorem sh_Door {w : World} {cs : List Value} {x : QDoor} (h : tDoor.at w cs x) : cs = [.int .i64 x.1, .int .i64 x.2] := by
  obtain ⟨c0, d0, rfl, h0, e0⟩ := at_prod h
  have h1 := e0; clear e0
  obtain rfl := sh_int h0
  obtain rfl := sh_int h1
  exact rfl
theorem el_Door {w : World} {ao : Option Addr} {n cap : Nat} {l : List (QDoor)} (h : (tSlice tDoor).at w [.slice ao n cap] l) {k : Nat} (hk : k < l.length) :
    ∃ (b off : Nat) (x : QDoor) , ao = some ⟨b, off, none⟩ ∧ b < w.heap.size ∧ l[k]? = some x ∧ tDoor.at w [.int .i64 x.1, .int .i64 x.2] x ∧ w.cell? ⟨b, off + k * 2, none⟩ = some (.int .i64 x.1) ∧ w.cell? ⟨b, off + k * 2 + 1, none⟩ = some (.int .i64 x.2) := by
  obtain ⟨x, hx⟩ : ∃ x, l[k]? = some x := ⟨_, List.getElem?_eq_getElem hk⟩
  obtain ⟨b, off, c, rfl, hb, hc, hv⟩ := sl_el h hx
  obtain rfl := sh_Door hc
  exact ⟨b, off, x, rfl, hb, hx, hc, hv 0 _ rfl, hv 1 _ rfl⟩
abbrev tDoorS := tSlice tDoor
def wDoorS (l : List (QDoor)) : Nat := l.length
abbrev QSlice := Int × Bool × QBox × (List (List QV)) × (List (QCell)) × (List (QWall)) × (List (QDoor)) × (List Int)
abbrev tSlc : Ty QSlice := tProd tInt (tProd tBool (tProd tBox (tProd tVecSS (tProd tCellS (tProd tWallS (tProd tDoorS (tInts)))))))
def wSlice (x : QSlice) : Nat := wVecSS x.2.2.2.1 + wCellS x.2.2.2.2.1 + wWallS x.2.2.2.2.2.1 + wDoorS x.2.2.2.2.2.2.1 + wIntS x.2.2.2.2.2.2.2
theorem sh_Slice {w : World} {cs : List Value} {x : QSlice} (h : tSlc.at w cs x) : ∃ (a6 : Option Addr) (n6 : Nat) (c6 : Nat) (a7 : Option Addr) (n7 : Nat) (c7 : Nat) (a8 : Option Addr) (n8 : Nat) (c8 : Nat) (a9 : Option Addr) (n9 : Nat) (c9 : Nat) (a10 : Option Addr) (n10 : Nat) (c10 : Nat), cs = [.int .i64 x.1, .bool x.2.1, .int .i64 x.2.2.1.1.1, .int .i64 x.2.2.1.1.2, .int .i64 x.2.2.1.2.1, .int .i64 x.2.2.1.2.2, .slice a6 n6 c6, .slice a7 n7 c7, .slice a8 n8 c8, .slice a9 n9 c9, .slice a10 n10 c10] := by
  obtain ⟨c0, d0, rfl, h0, e0⟩ := at_prod h
  obtain ⟨c1, d1, rfl, h1, e1⟩ := at_prod e0
  obtain ⟨c2, d2, rfl, h2, e2⟩ := at_prod e1
  obtain ⟨c3, d3, rfl, h3, e3⟩ := at_prod e2
  obtain ⟨c4, d4, rfl, h4, e4⟩ := at_prod e3
  obtain ⟨c5, d5, rfl, h5, e5⟩ := at_prod e4
  obtain ⟨c6, d6, rfl, h6, e6⟩ := at_prod e5
  have h7 := e6; clear e6
  obtain rfl := sh_int h0
  obtain rfl := sh_bool h1
  obtain rfl := sh_Box h2
  obtain ⟨z3a0, z3n0, z3c0, rfl⟩ := sh_slice h3
  obtain ⟨z4a0, z4n0, z4c0, rfl⟩ := sh_slice h4
  obtain ⟨z5a0, z5n0, z5c0, rfl⟩ := sh_slice h5
  obtain ⟨z6a0, z6n0, z6c0, rfl⟩ := sh_slice h6
  obtain ⟨z7a0, z7n0, z7c0, rfl⟩ := sh_slice h7
  exact ⟨_, _, _, _, _, _, _, _, _, _, _, _, _, _, _, rfl⟩
theorem el_Slice {w : World} {ao : Option Addr} {n cap : Nat} {l : List (QSlice)} (h : (tSlice tSlc).at w [.slice ao n cap] l) {k : Nat} (hk : k < l.length) :
    ∃ (b off : Nat) (x : QSlice) (a6 : Option Addr) (n6 : Nat) (c6 : Nat) (a7 : Option Addr) (n7 : Nat) (c7 : Nat) (a8 : Option Addr) (n8 : Nat) (c8 : Nat) (a9 : Option Addr) (n9 : Nat) (c9 : Nat) (a10 : Option Addr) (n10 : Nat) (c10 : Nat), ao = some ⟨b, off, none⟩ ∧ b < w.heap.size ∧ l[k]? = some x ∧ tSlc.at w [.int .i64 x.1, .bool x.2.1, .int .i64 x.2.2.1.1.1, .int .i64 x.2.2.1.1.2, .int .i64 x.2.2.1.2.1, .int .i64 x.2.2.1.2.2, .slice a6 n6 c6, .slice a7 n7 c7, .slice a8 n8 c8, .slice a9 n9 c9, .slice a10 n10 c10] x ∧ w.cell? ⟨b, off + k * 11, none⟩ = some (.int .i64 x.1) ∧ w.cell? ⟨b, off + k * 11 + 1, none⟩ = some (.bool x.2.1) ∧ w.cell? ⟨b, off + k * 11 + 2, none⟩ = some (.int .i64 x.2.2.1.1.1) ∧ w.cell? ⟨b, off + k * 11 + 3, none⟩ = some (.int .i64 x.2.2.1.1.2) ∧ w.cell? ⟨b, off + k * 11 + 4, none⟩ = some (.int .i64 x.2.2.1.2.1) ∧ w.cell? ⟨b, off + k * 11 + 5, none⟩ = some (.int .i64 x.2.2.1.2.2) ∧ w.cell? ⟨b, off + k * 11 + 6, none⟩ = some (.slice a6 n6 c6) ∧ w.cell? ⟨b, off + k * 11 + 7, none⟩ = some (.slice a7 n7 c7) ∧ w.cell? ⟨b, off + k * 11 + 8, none⟩ = some (.slice a8 n8 c8) ∧ w.cell? ⟨b, off + k * 11 + 9, none⟩ = some (.slice a9 n9 c9) ∧ w.cell? ⟨b, off + k * 11 + 10, none⟩ = some (.slice a10 n10 c10) := by
  obtain ⟨x, hx⟩ : ∃ x, l[k]? = some x := ⟨_, List.getElem?_eq_getElem hk⟩
  obtain ⟨b, off, c, rfl, hb, hc, hv⟩ := sl_el h hx
  obtain ⟨a6, n6, c6, a7, n7, c7, a8, n8, c8, a9, n9, c9, a10, n10, c10, rfl⟩ := sh_Slice hc
  exact ⟨b, off, x, a6, n6, c6, a7, n7, c7, a8, n8, c8, a9, n9, c9, a10, n10, c10, rfl, hb, hx, hc, hv 0 _ rfl, hv 1 _ rfl, hv 2 _ rfl, hv 3 _ rfl, hv 4 _ rfl, hv 5 _ rfl, hv 6 _ rfl, hv 7 _ rfl, hv 8 _ rfl, hv 9 _ rfl, hv 10 _ rfl⟩
abbrev tSlcS := tSlice tSlc
def wSliceS (l : List (QSlice)) : Nat := l.length + wsum wSlice l
abbrev QRoad := QScene × (List (QSlice)) × (List Int) × (List (List Int))
abbrev tRoad : Ty QRoad := tProd tScene (tProd tSlcS (tProd tInts (tIntSS)))
def wRoad (x : QRoad) : Nat := wScene x.1 + wSliceS x.2.1 + wIntS x.2.2.1 + wIntSS x.2.2.2
theorem sh_Road {w : World} {cs : List Value} {x : QRoad} (h : tRoad.at w cs x) : ∃ (a4 : Option Addr) (n4 : Nat) (c4 : Nat) (a5 : Option Addr) (n5 : Nat) (c5 : Nat) (a6 : Option Addr) (n6 : Nat) (c6 : Nat) (a7 : Option Addr) (n7 : Nat) (c7 : Nat) (a8 : Option Addr) (n8 : Nat) (c8 : Nat) (a9 : Option Addr) (n9 : Nat) (c9 : Nat), cs = [.int .i64 x.1.1.1, .int .i64 x.1.1.2, .int .i64 x.1.2.1.1, .int .i64 x.1.2.1.2, .slice a4 n4 c4, .slice a5 n5 c5, .slice a6 n6 c6, .slice a7 n7 c7, .slice a8 n8 c8, .slice a9 n9 c9] := by
  obtain ⟨c0, d0, rfl, h0, e0⟩ := at_prod h
  obtain ⟨c1, d1, rfl, h1, e1⟩ := at_prod e0
  obtain ⟨c2, d2, rfl, h2, e2⟩ := at_prod e1
  have h3 := e2; clear e2
  obtain ⟨z0a4, z0n4, z0c4, z0a5, z0n5, z0c5, z0a6, z0n6, z0c6, rfl⟩ := sh_Scene h0
  obtain ⟨z1a0, z1n0, z1c0, rfl⟩ := sh_slice h1
  obtain ⟨z2a0, z2n0, z2c0, rfl⟩ := sh_slice h2
  obtain ⟨z3a0, z3n0, z3c0, rfl⟩ := sh_slice h3
  exact ⟨_, _, _, _, _, _, _, _, _, _, _, _, _, _, _, _, _, _, rfl⟩
theorem el_Road {w : World} {ao : Option Addr} {n cap : Nat} {l : List (QRoad)} (h : (tSlice tRoad).at w [.slice ao n cap] l) {k : Nat} (hk : k < l.length) :
    ∃ (b off : Nat) (x : QRoad) (a4 : Option Addr) (n4 : Nat) (c4 : Nat) (a5 : Option Addr) (n5 : Nat) (c5 : Nat) (a6 : Option Addr) (n6 : Nat) (c6 : Nat) (a7 : Option Addr) (n7 : Nat) (c7 : Nat) (a8 : Option Addr) (n8 : Nat) (c8 : Nat) (a9 : Option Addr) (n9 : Nat) (c9 : Nat), ao = some ⟨b, off, none⟩ ∧ b < w.heap.size ∧ l[k]? = some x ∧ tRoad.at w [.int .i64 x.1.1.1, .int .i64 x.1.1.2, .int .i64 x.1.2.1.1, .int .i64 x.1.2.1.2, .slice a4 n4 c4, .slice a5 n5 c5, .slice a6 n6 c6, .slice a7 n7 c7, .slice a8 n8 c8, .slice a9 n9 c9] x ∧ w.cell? ⟨b, off + k * 10, none⟩ = some (.int .i64 x.1.1.1) ∧ w.cell? ⟨b, off + k * 10 + 1, none⟩ = some (.int .i64 x.1.1.2) ∧ w.cell? ⟨b, off + k * 10 + 2, none⟩ = some (.int .i64 x.1.2.1.1) ∧ w.cell? ⟨b, off + k * 10 + 3, none⟩ = some (.int .i64 x.1.2.1.2) ∧ w.cell? ⟨b, off + k * 10 + 4, none⟩ = some (.slice a4 n4 c4) ∧ w.cell? ⟨b, off + k * 10 + 5, none⟩ = some (.slice a5 n5 c5) ∧ w.cell? ⟨b, off + k * 10 + 6, none⟩ = some (.slice a6 n6 c6) ∧ w.cell? ⟨b, off + k * 10 + 7, none⟩ = some (.slice a7 n7 c7) ∧ w.cell? ⟨b, off + k * 10 + 8, none⟩ = some (.slice a8 n8 c8) ∧ w.cell? ⟨b, off + k * 10 + 9, none⟩ = some (.slice a9 n9 c9) := by
  obtain ⟨x, hx⟩ : ∃ x, l[k]? = some x := ⟨_, List.getElem?_eq_getElem hk⟩
  obtain ⟨b, off, c, rfl, hb, hc, hv⟩ := sl_el h hx
  obtain ⟨a4, n4, c4, a5, n5, c5, a6, n6, c6, a7, n7, c7, a8, n8, c8, a9, n9, c9, rfl⟩ := sh_Road hc
  exact ⟨b, off, x, a4, n4, c4, a5, n5, c5, a6, n6, c6, a7, n7, c7, a8, n8, c8, a9, n9, c9, rfl, hb, hx, hc, hv 0 _ rfl, hv 1 _ rfl, hv 2 _ rfl, hv 3 _ rfl, hv 4 _ rfl, hv 5 _ rfl, hv 6 _ rfl, hv 7 _ rfl, hv 8 _ rfl, hv 9 _ rfl⟩
end Go.Proofs.Ytkhcblheekfdmaa
