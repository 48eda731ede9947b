/- Natural numbers as limbs: quotient and remainder: the program's and the reference's. -/
import Derived.Test.YtnndjbomfcacfaaRows
import Derived.Test.YtnndjbomfcacfaaNatE
import Derived.Test.YtnndjbomfcacfaaApp
import Derived.Deep.RegionHeld3
import Derived.Deep.QuietTactic
import Derived.BigQuiet
import Derived.IntWalk
namespace Go.Proofs.Ytnndjbomfcacfaa
open Go.RowKit
theorem Ty.rd_more {α : Type} {S : Ty α} {p : Nat → Prop} {w w' : World} {cs : List Value} {x : α} (h : S.rd p w cs x) (hb : More w w') : S.rd p w' cs x :=
  S.keep h (fun k hp hl => ⟨hp, hb.block k hl, Nat.lt_of_lt_of_le hl hb.size⟩)
theorem sl_takeP {α : Type} {S : Ty α} {p : Nat → Prop} {w : World} {ao : Option Addr} {n cap m : Nat} {l : List α} (h : (tSlice S).rd p w [.slice ao n cap] l) (hm : m ≤ n) : (tSlice S).rd p w [.slice ao m cap] (l.take m) := by
  obtain ⟨ao', cap', h0, k1, k2, k3, k4⟩ := slRd_at h
  simp at h0
  obtain ⟨rfl, rfl, rfl⟩ := h0
  have hl : (l.take m).length = m := by rw [List.length_take, Nat.min_eq_left hm]
  refine ⟨ao, cap, by rw [hl], by omega, k2, k3, fun h0 => ?_⟩
  obtain ⟨b, off, rfl, hp, hb, he⟩ := k4 (by omega)
  refine ⟨b, off, rfl, hp, hb, fun k x hx => he k x ?_⟩
  rw [List.getElem?_take] at hx
  split at hx
  · exact hx
  · cases hx
theorem Ty.fresh_rd {α : Type} {S : Ty α} {B : Nat} {w : World} {cs : List Value} {x : α} (h : S.fresh B w cs x) : S.rd (fun k => B ≤ k) w cs x := by
  obtain ⟨bs, h1, _, h3⟩ := h
  exact S.keep (S.own_rd h1) (fun k hk hl => ⟨h3 k hk, rfl, hl⟩)
/-- What is read from blocks from B on is kept where one below B is written. -/
theorem Ty.rd_set {α : Type} {S : Ty α} {B : Nat} {w : World} {cs : List Value} {x : α} {a : Addr} {u : Value} (h : S.rd (fun k => B ≤ k) w cs x) (ha : a.block < B) : S.rd (fun k => B ≤ k) (w.setCell a u) cs x :=
  S.keep h (fun k hp hl => by
    have ht := (Turns.refl [a.block] w).setCell (p := a) (.inl (by simp)) u
    exact ⟨hp, ht.block k hl (by simp; omega), Nat.lt_of_lt_of_le hl ht.size⟩)
end Go.Proofs.Ytnndjbomfcacfaa
