/- Fractions in memory; the small functions under ratMake. -/
import Derived.Test.YtnndjbomfcacfaaBig2
import Derived.Test.YtnndjbomfcacfaaGNum
namespace Go.Proofs.Ytnndjbomfcacfaa
open Go.RowKit
/-- u and v are the limbs of a fraction's upper and lower number. -/
def RatAt (w : World) (f : Fr) (u v : Value) : Prop := tInts.at w [u] (limbs f.1.natAbs) ∧ tInts.at w [v] (limbs f.2)
/-- .. in new memory. -/
def RatFr (B : Nat) (w : World) (f : Fr) (u v : Value) : Prop := tRat.fresh B w [.bool (decide (f.1 < 0)), u, v] (encR f)
theorem RatAt.more {w w' : World} {f : Fr} {u v : Value} (h : RatAt w f u v) (hm : More w w') : RatAt w' f u v := ⟨Ty.at_more h.1 hm, Ty.at_more h.2 hm⟩
theorem sh_bools {w : World} {b : Bool} {x : Bool} (h : tBool.at w [.bool b] x) : x = b := by have := sh_bool h; simpa using this.symm
theorem rat_split {w : World} {b : Bool} {u v : Value} {x : QR} (h : tRat.at w [.bool b, u, v] x) : x.1.1 = b ∧ tInts.at w [u] x.1.2 ∧ tInts.at w [v] x.2 := by
  obtain ⟨c0, d0, e0, f0, g0⟩ := at_prod h
  obtain ⟨c1, d1, rfl, f1, g1⟩ := at_prod f0
  obtain ⟨a1, n1, p1, rfl⟩ := sh_slice g1
  obtain ⟨a2, n2, p2, rfl⟩ := sh_slice g0
  obtain rfl := sh_bool f1
  simp at e0
  obtain ⟨e1, rfl, rfl⟩ := e0
  exact ⟨e1.symm, g1, g0⟩
theorem rat_join {w : World} {b : Bool} {u v : Value} {x : QR} (h : x.1.1 = b) (hu : tInts.at w [u] x.1.2) (hv : tInts.at w [v] x.2) : tRat.at w [.bool b, u, v] x := by
  subst h
  exact prod_at (x := x.1) (y := x.2) (c1 := [.bool x.1.1, u]) (c2 := [v]) (prod_at (x := x.1.1) (y := x.1.2) (c1 := [.bool x.1.1]) (c2 := [u]) rfl hu) hv
theorem RatAt.of {w : World} {b : Bool} {u v : Value} {f : Fr} (h : tRat.at w [.bool b, u, v] (encR f)) : decide (f.1 < 0) = b ∧ RatAt w f u v := by
  obtain ⟨h1, h2, h3⟩ := rat_split h
  exact ⟨h1, h2, h3⟩
theorem RatAt.out {w : World} {u v : Value} {f : Fr} (h : RatAt w f u v) : tRat.at w [.bool (decide (f.1 < 0)), u, v] (encR f) := rat_join rfl h.1 h.2
theorem RatFr.at {B : Nat} {w : World} {f : Fr} {u v : Value} (h : RatFr B w f u v) : RatAt w f u v := (RatAt.of (Ty.fresh_at h)).2
theorem RatFr.more {B : Nat} {w w' : World} {f : Fr} {u v : Value} (h : RatFr B w f u v) (hm : More w w') : RatFr B w' f u v := Ty.fresh_more h hm
theorem RatFr.mono {B B' : Nat} {w : World} {f : Fr} {u v : Value} (h : RatFr B w f u v) (hb : B' ≤ B) : RatFr B' w f u v := Ty.fresh_mono h hb
theorem RatFr.turns {B : Nat} {bs : List Nat} {w w' : World} {f : Fr} {u v : Value} (h : RatFr B w f u v) (hb : Turns bs w w') (hk : ∀ k ∈ bs, k < B) : RatFr B w' f u v := Ty.fresh_turns h hb hk
theorem RatFr.zero {B : Nat} {w : World} : RatFr B w (0, 0) (.slice none 0 0) (.slice none 0 0) := by
  have h0 : tInts.fresh B w [.slice none 0 0] [] := nil_fresh
  exact ⟨[], by
    refine ⟨[], [], [.bool false, .slice none 0 0], [.slice none 0 0], rfl, rfl, ⟨[], [], [.bool false], [.slice none 0 0], rfl, rfl, ⟨rfl, rfl⟩, ?_⟩, ?_⟩ <;> exact ⟨none, 0, rfl, by simp [limbs_zero, encZ, encR], by simp, fun _ => rfl, .inl ⟨by simp [limbs_zero, encZ, encR], rfl⟩⟩, by simp, by simp⟩
theorem RatAt.sh {w : World} {u v : Value} {f : Fr} (h : RatAt w f u v) : ∃ a n c a' n' c', u = .slice a n c ∧ v = .slice a' n' c' := by
  obtain ⟨a, n, c, h1⟩ := sh1 h.1
  obtain ⟨a', n', c', h2⟩ := sh1 h.2
  exact ⟨a, n, c, a', n', c', h1, h2⟩
theorem RatAt.shL {w : World} {u v : Value} {f : Fr} (h : RatAt w f u v) : ∃ a n c a' n' c', u = .slice a n c ∧ v = .slice a' n' c' ∧ n = (limbs f.1.natAbs).length ∧ n' = (limbs f.2).length := by
  obtain ⟨a, c, h1⟩ := sl_len h.1
  obtain ⟨a', c', h2⟩ := sl_len h.2
  exact ⟨a, _, c, a', _, c', h1, h2, rfl, rfl⟩
theorem RatAt.set2 {w : World} {f : Fr} {x y : Value} {r : Nat} {b : Bool} {p : Option Addr} {q t : Nat} {c0 c1 : Value} (h : RatAt w f x y) (h0 : w.cell? ⟨r, 0, none⟩ = some (.bool b)) (h1 : w.cell? ⟨r, 1, none⟩ = some (.slice p q t)) :
    RatAt ((w.setCell ⟨r, 0, none⟩ c0).setCell ⟨r, 1, none⟩ c1) f x y := ⟨ints_set2 h.1 h0 h1, ints_set2 h.2 h0 h1⟩
theorem RatAt.set3 {w : World} {f : Fr} {x y : Value} {r : Nat} {b : Bool} {p p' : Option Addr} {q t q' t' : Nat} {c0 c1 c2 : Value} (h : RatAt w f x y) (h0 : w.cell? ⟨r, 0, none⟩ = some (.bool b)) (h1 : w.cell? ⟨r, 1, none⟩ = some (.slice p q t)) (h2 : w.cell? ⟨r, 2, none⟩ = some (.slice p' q' t')) :
    RatAt (((w.setCell ⟨r, 0, none⟩ c0).setCell ⟨r, 1, none⟩ c1).setCell ⟨r, 2, none⟩ c2) f x y := ⟨ints_set3 h.1 h0 h1 h2, ints_set3 h.2 h0 h1 h2⟩
theorem limbs_len1 {m : Nat} (h : (limbs m).length ≠ 1) : m ≠ 1 := fun e => h (by rw [e, limbs_1]; rfl)
end Go.Proofs.Ytnndjbomfcacfaa
