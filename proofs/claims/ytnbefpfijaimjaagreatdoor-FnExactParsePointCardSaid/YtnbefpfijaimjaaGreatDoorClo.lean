/- Copies in new memory: slices.Clone of ints; pairs laid down in either order. -/
import Derived.Test.YtnbefpfijaimjaaGreatDoorNatA
import Derived.Test.YtnbefpfijaimjaaGreatDoorApp
import Derived.Test.YtnbefpfijaimjaaGreatDoorGBase
import Derived.Deep.RegionHeld3
namespace Go.Proofs.YtnbefpfijaimjaaGreatDoor
open Go.RowKit
variable {α β : Type}
theorem Ty.fresh_pairR {A : Ty α} {C : Ty β} {B : Nat} {bs : List Nat} {w1 w2 W' : World} {c1 c2 : List Value} {x : α} {y : β} (h2 : C.fresh B w1 c2 y) (t1 : Turns bs w1 W') (hk : ∀ k ∈ bs, k < B) (h1 : A.fresh w1.heap.size w2 c1 x) (t2 : Turns bs w2 W') (hB : B ≤ w1.heap.size) :
    (tProd A C).fresh B W' (c1 ++ c2) (x, y) := by
  obtain ⟨b2, d1, d2, d3⟩ := h2
  obtain ⟨b1, a1, a2, a3⟩ := h1
  have d4 := Ty.own_turns d1 t1 (fun k hk1 hk2 => by have := d3 k hk1; have := hk k hk2; omega)
  have a4 := Ty.own_turns a1 t2 (fun k hk1 hk2 => by have := a3 k hk1; have := hk k hk2; omega)
  refine ⟨b1 ++ b2, ⟨b1, b2, c1, c2, rfl, rfl, a4, d4⟩, ?_, ?_⟩
  · rw [List.nodup_append]
    refine ⟨a2, d2, fun k hk k' hk' e => ?_⟩
    subst e
    have := C.own_lt d1 k hk'
    have := a3 k hk
    omega
  · intro b hb'
    rcases List.mem_append.1 hb' with h | h
    · have := a3 b h; omega
    · exact d3 b h
theorem rat_fA {B : Nat} {bs : List Nat} {w1 w2 W' : World} {b : Bool} {m d : Value} {mag den : List Int} (h1 : tInts.fresh B w1 [m] mag) (h2 : tInts.fresh w1.heap.size w2 [d] den) (t1 : Turns bs w1 W') (t2 : Turns bs w2 W') (hk : ∀ k ∈ bs, k < B) (hB : B ≤ w1.heap.size) :
    tRat.fresh B W' [.bool b, m, d] ((b, mag), den) := by
  have q1 : tBig.fresh B w1 [.bool b, m] (b, mag) := Ty.fresh_flat fBool (c1 := [.bool b]) (x := b) rfl trivial h1
  have q2 := Ty.fresh_turns h2 t2 (fun k hk' => by have := hk k hk'; omega)
  exact Ty.fresh_pairT (c1 := [.bool b, m]) (c2 := [d]) q1 t1 hk q2 hB
theorem rat_fB {B : Nat} {bs : List Nat} {w1 w2 W' : World} {b : Bool} {m d : Value} {mag den : List Int} (h2 : tInts.fresh B w1 [d] den) (h1 : tInts.fresh w1.heap.size w2 [m] mag) (t1 : Turns bs w1 W') (t2 : Turns bs w2 W') (hk : ∀ k ∈ bs, k < B) (hB : B ≤ w1.heap.size) :
    tRat.fresh B W' [.bool b, m, d] ((b, mag), den) := by
  have q1 : tBig.fresh w1.heap.size w2 [.bool b, m] (b, mag) := Ty.fresh_flat fBool (c1 := [.bool b]) (x := b) rfl trivial h1
  exact Ty.fresh_pairR (c1 := [.bool b, m]) (c2 := [d]) h2 t1 hk q1 t2 hB

set_option maxHeartbeats 1600000 in
theorem clone_ints (v : Value) (l : List Int) (w : World) (hv : tInts.at w [v] l) (hl : l.length ≤ 1048576) :
    Calls Tryz.prog 145 #[v] w fun e w' => ∃ v', e = .returned v' ∧ More w w' ∧ tInts.fresh w.heap.size w' [v'] l := by
  obtain ⟨ao, cap, rfl, k1, k2, k3, k4⟩ := slRd_at hv
  have HV := Lib.hid hv; have HL := Lib.hid hl; clear hv hl k1 k2 k4
  obtain ⟨i0, hi, hz0, hz1, hz2⟩ := info_parts infoInt_
  have q22 : ∀ (w : World) (a : Option Addr) (n c n' c' : Nat), (binOp .eql 22 (.slice a n c) (.slice none n' c')).run Tryz.prog w = .ok (.bool a.isNone) w := fun w a n c n' c' => Lib.run_eql_slice_nil w _ _ a n c n' c' Tryz.underlying22
  cases ao with
  | none =>
    have hc : cap = 0 := k3 rfl
    subst hc
    have hl0 : l = [] := by
      obtain ⟨ao', cap', h0, q1, q2, q3, _⟩ := slRd_at HV.out
      simp at h0
      obtain ⟨rfl, rfl⟩ := h0
      exact List.eq_nil_of_length_eq_zero (by omega)
    have HZ := Lib.hid hl0; clear hl0 k3
    go_enter Tryz.func145, Tryz.ntmps145
    go_wp2_with fail
    go_ret
    exact ⟨_, rfl, mC, by rw [HZ.out]; exact nil_fresh⟩
  | some ad =>
    clear k3
    go_enter Tryz.func145, Tryz.ntmps145
    go_wp2_with (at_builtin; refine wpList_copyAll fInt rfl _ _ 22 rfl 3 i0 (.int .i64 0) 8 Tryz.underlying22 hi hz0 hz1 hz2 rfl (by decide) rfl rfl (Ty.at_more HV.out mC) (Lib.hid (by have := HL.out; omega)) (by decide) ?_)
    intro v' w1 f1 b1
    go_wp2_with fail
    go_ret
    exact ⟨_, rfl, mC, Ty.fresh_mono f1 (by simp)⟩
end Go.Proofs.YtnbefpfijaimjaaGreatDoor
