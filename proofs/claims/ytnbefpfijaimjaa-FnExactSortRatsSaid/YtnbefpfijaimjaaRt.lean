/- Fractions in memory; the small functions under ratMake. -/
import Derived.Test.YtnbefpfijaimjaaBig2
import Derived.Test.YtnbefpfijaimjaaGNum
namespace Go.Proofs.Ytnbefpfijaimjaa
open Go.RowKit
/-- u and v are the limbs of a fraction's upper and lower number. -/
def RatAt (w : World) (f : Fr) (u v : Value) : Prop := tInts.at w [u] (limbs f.1.natAbs) ∧ tInts.at w [v] (limbs f.2)
/-- .. in new memory. -/
def RatFr (B : Nat) (w : World) (f : Fr) (u v : Value) : Prop := tRat.fresh B w [.bool (decide (f.1 < 0)), u, v] (encR f)
theorem RatAt.more {w w' : World} {f : Fr} {u v : Value} (h : RatAt w f u v) (hm : More w w') : RatAt w' f u v := ⟨Ty.at_more h.1 hm, Ty.at_more h.2 hm⟩
theorem sh_bools {w : World} {b : Bool} {x : Bool} (h : tBool.at w [.bool b] x) : x = b := by have := sh_bool h; simpa using this.symm
theorem rat_split {w : World} {b : Bool} {u v : Value} {x : QR} (h : tRat.at w [.bool b, u, v] x) : x.1.1 = b ∧ tInts.at w [u] x.1.2 ∧ tInts.at w [v] x.2 := by
  obtain ⟨c0, d0, e0, f0, g0⟩ := at_prod h
  obtain ⟨c1, d1, rfl, f1, g1⟩ := at_prod f0
  obtain ⟨a1, n1, p1, rfl⟩ := sh_slice g1
  obtain ⟨a2, n2, p2, rfl⟩ := sh_slice g0
  obtain rfl := sh_bool f1
  simp at e0
  obtain ⟨e1, rfl, rfl⟩ := e0
  exact ⟨e1.symm, g1, g0⟩
theorem rat_join {w : World} {b : Bool} {u v : Value} {x : QR} (h : x.1.1 = b) (hu : tInts.at w [u] x.1.2) (hv : tInts.at w [v] x.2) : tRat.at w [.bool b, u, v] x := by
  subst h
  exact prod_at (x := x.1) (y := x.2) (c1 := [.bool x.1.1, u]) (c2 := [v]) (prod_at (x := x.1.1) (y := x.1.2) (c1 := [.bool x.1.1]) (c2 := [u]) rfl hu) hv
theorem RatAt.of {w : World} {b : Bool} {u v : Value} {f : Fr} (h : tRat.at w [.bool b, u, v] (encR f)) : decide (f.1 < 0) = b ∧ RatAt w f u v := by
  obtain ⟨h1, h2, h3⟩ := rat_split h
  exact ⟨h1, h2, h3⟩
theorem RatAt.out {w : World} {u v : Value} {f : Fr} (h : RatAt w f u v) : tRat.at w [.bool (decide (f.1 < 0)), u, v] (encR f) := rat_join rfl h.1 h.2
theorem RatFr.at {B : Nat} {w : World} {f : Fr} {u v : Value} (h : RatFr B w f u v) : RatAt w f u v := (RatAt.of (Ty.fresh_at h)).2
theorem RatFr.more {B : Nat} {w w' : World} {f : Fr} {u v : Value} (h : RatFr B w f u v) (hm : More w w') : RatFr B w' f u v := Ty.fresh_more h hm
theorem RatFr.mono {B B' : Nat} {w : World} {f : Fr} {u v : Value} (h : RatFr B w f u v) (hb : B' ≤ B) : RatFr B' w f u v := Ty.fresh_mono h hb
theorem RatFr.turns {B : Nat} {bs : List Nat} {w w' : World} {f : Fr} {u v : Value} (h : RatFr B w f u v) (hb : Turns bs w w') (hk : ∀ k ∈ bs, k < B) : RatFr B w' f u v := Ty.fresh_turns h hb hk
theorem RatFr.zero {B : Nat} {w : World} : RatFr B w (0, 0) (.slice none 0 0) (.slice none 0 0) := by
  have h0 : tInts.fresh B w [.slice none 0 0] [] := nil_fresh
  exact ⟨[], by
    refine ⟨[], [], [.bool false, .slice none 0 0], [.slice none 0 0], rfl, rfl, ⟨[], [], [.bool false], [.slice none 0 0], rfl, rfl, ⟨rfl, rfl⟩, ?_⟩, ?_⟩ <;> exact ⟨none, 0, rfl, by simp [limbs_zero, encZ, encR], by simp, fun _ => rfl, .inl ⟨by simp [limbs_zero, encZ, encR], rfl⟩⟩, by simp, by simp⟩
theorem RatAt.sh {w : World} {u v : Value} {f : Fr} (h : RatAt w f u v) : ∃ a n c a' n' c', u = .slice a n c ∧ v = .slice a' n' c' := by
  obtain ⟨a, n, c, h1⟩ := sh1 h.1
  obtain ⟨a', n', c', h2⟩ := sh1 h.2
  exact ⟨a, n, c, a', n', c', h1, h2⟩
theorem RatAt.shL {w : World} {u v : Value} {f : Fr} (h : RatAt w f u v) : ∃ a n c a' n' c', u = .slice a n c ∧ v = .slice a' n' c' ∧ n = (limbs f.1.natAbs).length ∧ n' = (limbs f.2).length := by
  obtain ⟨a, c, h1⟩ := sl_len h.1
  obtain ⟨a', c', h2⟩ := sl_len h.2
  exact ⟨a, _, c, a', _, c', h1, h2, rfl, rfl⟩
theorem RatAt.set2 {w : World} {f : Fr} {x y : Value} {r : Nat} {b : Bool} {p : Option Addr} {q t : Nat} {c0 c1 : Value} (h : RatAt w f x y) (h0 : w.cell? ⟨r, 0, none⟩ = some (.bool b)) (h1 : w.cell? ⟨r, 1, none⟩ = some (.slice p q t)) :
    RatAt ((w.setCell ⟨r, 0, none⟩ c0).setCell ⟨r, 1, none⟩ c1) f x y := ⟨ints_set2 h.1 h0 h1, ints_set2 h.2 h0 h1⟩
theorem RatAt.set3 {w : World} {f : Fr} {x y : Value} {r : Nat} {b : Bool} {p p' : Option Addr} {q t q' t' : Nat} {c0 c1 c2 : Value} (h : RatAt w f x y) (h0 : w.cell? ⟨r, 0, none⟩ = some (.bool b)) (h1 : w.cell? ⟨r, 1, none⟩ = some (.slice p q t)) (h2 : w.cell? ⟨r, 2, none⟩ = some (.slice p' q' t')) :
    RatAt (((w.setCell ⟨r, 0, none⟩ c0).setCell ⟨r, 1, none⟩ c1).setCell ⟨r, 2, none⟩ c2) f x y := ⟨ints_set3 h.1 h0 h1 h2, ints_set3 h.2 h0 h1 h2⟩
theorem limbs_len1 {m : Nat} (h : (limbs m).length ≠ 1) : m ≠ 1 := fun e => h (by rw [e, limbs_1]; rfl)
theorem impl_isOne (v : Value) (m : Nat) (w : World) (hv : tInts.at w [v] (limbs m)) :
    Calls Try.prog 50 #[v] w fun e w' => e = .returned (.bool (decide (m = 1))) ∧ More w w' := by
  obtain ⟨ao, cap, rfl⟩ := sl_len hv
  have HV := Lib.hid hv; clear hv
  obtain ⟨n, hn⟩ : ∃ n, n = (limbs m).length := ⟨_, rfl⟩
  rw [← hn] at HV ⊢
  have HN := Lib.hid hn; clear hn
  by_cases h : n = 1
  · subst h
    have hB : m < 1000000000 := limbs1_lt (by rw [← HN.out]; exact Nat.le_refl _)
    have hm0 : m ≠ 0 := fun e => by have := HN.out; rw [e, limbs_zero] at this; simp at this
    obtain ⟨px, offx, z, rfl, hbltx, hxx, -, ccx⟩ := int_el HV.out (k := 0) (by rw [← HN.out]; omega)
    have hzm : z = (m : Int) := by
      rw [limbs_one hm0 hB] at hxx
      simpa using hxx.symm
    subst hzm
    clear hxx hm0 hB
    rw [Nat.add_zero] at ccx
    by_cases h1 : m = 1
    · subst h1
      go_enter Try.func50, Try.ntmps50
      go_wp2_with fail
      go_ret
      exact ⟨rfl, mC⟩
    · have h1' : ((m : Int) == 1) = false := by simp; omega
      rw [decide_eq_false h1]
      go_enter Try.func50, Try.ntmps50
      go_wp2_with fail
      go_ret
      exact ⟨rfl, mC⟩
  · have h' : ((n : Int) == 1) = false := by simp; omega
    rw [decide_eq_false (limbs_len1 (by rw [← HN.out]; exact h))]
    go_enter Try.func50, Try.ntmps50
    go_wp2_with fail
    go_ret
    exact ⟨rfl, mC⟩
theorem spec_l04One (v : Value) (m : Nat) (w : World) (hv : tInts.at w [v] (limbs m)) :
    Calls Try.prog 25 #[v] w fun e w' => e = .returned (.bool (decide (m = 1))) ∧ More w w' := by
  obtain ⟨ao, cap, rfl⟩ := sl_len hv
  have HV := Lib.hid hv; clear hv
  obtain ⟨n, hn⟩ : ∃ n, n = (limbs m).length := ⟨_, rfl⟩
  rw [← hn] at HV ⊢
  have HN := Lib.hid hn; clear hn
  by_cases h : n = 1
  · subst h
    have hB : m < 1000000000 := limbs1_lt (by rw [← HN.out]; exact Nat.le_refl _)
    have hm0 : m ≠ 0 := fun e => by have := HN.out; rw [e, limbs_zero] at this; simp at this
    obtain ⟨px, offx, z, rfl, hbltx, hxx, -, ccx⟩ := int_el HV.out (k := 0) (by rw [← HN.out]; omega)
    have hzm : z = (m : Int) := by
      rw [limbs_one hm0 hB] at hxx
      simpa using hxx.symm
    subst hzm
    clear hxx hm0 hB
    rw [Nat.add_zero] at ccx
    by_cases h1 : m = 1
    · subst h1
      go_enter Try.func25, Try.ntmps25
      go_wp2_with fail
      go_ret
      exact ⟨rfl, mC⟩
    · have h1' : ((m : Int) == 1) = false := by simp; omega
      rw [decide_eq_false h1]
      go_enter Try.func25, Try.ntmps25
      go_wp2_with fail
      go_ret
      exact ⟨rfl, mC⟩
  · have h' : ((n : Int) == 1) = false := by simp; omega
    rw [decide_eq_false (limbs_len1 (by rw [← HN.out]; exact h))]
    go_enter Try.func25, Try.ntmps25
    go_wp2_with fail
    go_ret
    exact ⟨rfl, mC⟩
theorem impl_isGood (b : Bool) (f : Fr) (u v : Value) (w : World) (h : RatAt w f u v) :
    Calls Try.prog 55 #[.agg #[.bool b, u, v]] w fun e w' => e = .returned (.bool (decide (f.2 ≠ 0))) ∧ More w w' := by
  obtain ⟨a, n, c, a', n', c', rfl, rfl, h1, h2⟩ := h.shL
  have HN : Hid (n' = (limbs f.2).length) := Lib.hid h2
  clear h h1 h2
  by_cases h0 : 0 < n'
  · have h0' : (0 : Int) < (n' : Int) := by omega
    have hf : f.2 ≠ 0 := limbs_len_pos.1 (by rw [← HN.out]; exact h0)
    rw [decide_eq_true hf]
    go_enter Try.func55, Try.ntmps55
    go_wp2_with fail
    go_ret
    exact ⟨rfl, mC⟩
  · have h0' : ¬ (0 : Int) < (n' : Int) := by omega
    have hf : ¬ f.2 ≠ 0 := fun k => h0 (by rw [HN.out]; exact limbs_len_pos.2 k)
    rw [decide_eq_false hf]
    go_enter Try.func55, Try.ntmps55
    go_wp2_with fail
    go_ret
    exact ⟨rfl, mC⟩
end Go.Proofs.Ytnbefpfijaimjaa
