/- Several texts laid together; each has its own word at its head. -/
import Derived.Test.YtnndjbomfcacfaaRmk
import Derived.Test.YtnndjbomfcacfaaNatH
import Derived.Test.YtnndjbomfcacfaaCmp
import Derived.Test.YtnndjbomfcacfaaGInt
import Derived.Test.YtnndjbomfcacfaaRa2
/- Fractions in lowest terms: the reference's making. -/
namespace Go.Proofs.Ytnndjbomfcacfaa
open Go.RowKit
theorem frMk_sgn0 (s : Bool) (m d : Nat) : frMk (sgn s m) d = if sm (m / Nat.gcd m d) && sm (d / Nat.gcd m d) then (sgn s (m / Nat.gcd m d), d / Nat.gcd m d) else (0, 0) := by
  by_cases h : m = 0
  · subst h
    have h0 : ∀ b, sgn b 0 = 0 := fun b => by cases b <;> rfl
    unfold frMk
    rw [natAbs_sgn, Nat.zero_div, h0, h0]
  · exact frMk_sgn (fun _ => h)
theorem RatFr.mk0 {B : Nat} {w : World} {x y : Value} {s : Bool} {M D : Nat} (h : tRat.fresh B w [.bool (decide (sgn s M < 0)), x, y] ((decide (sgn s M < 0), limbs M), limbs D)) : RatFr B w (sgn s M, D) x y := by
  unfold RatFr encR encZ
  simp only [natAbs_sgn]
  exact h
def frL (s : Bool) (m d : Nat) : Fr := if d = 0 then (0, 0) else frMk (sgn s m) d
theorem frL_vd (s : Bool) (m d : Nat) : Vd (frL s m d) := by
  unfold frL
  split
  · exact .inl rfl
  · rename_i h
    exact frMk_vd _ h
end Go.Proofs.Ytnndjbomfcacfaa
/- Fractions: the reference's products. -/
namespace Go.Proofs.Ytnndjbomfcacfaa
open Go.RowKit
theorem sgn_mulZ {x y : Int} {s t : Bool} (hs : decide (x < 0) = s) (ht : decide (y < 0) = t) : sgn (s != t) (x * y).natAbs = x * y := by
  show sgn (!(s == t)) _ = _
  rw [Int.natAbs_mul, ← sgn_mul, sgn_of hs, sgn_of ht]
theorem at_mulZZ {w : World} {v : Value} {x y : Int} (h : tInts.at w [v] (limbs (x.natAbs * y.natAbs))) : tInts.at w [v] (limbs (x * y).natAbs) := by rw [Int.natAbs_mul]; exact h
end Go.Proofs.Ytnndjbomfcacfaa
/- Fractions: the reference's sums. -/
namespace Go.Proofs.Ytnndjbomfcacfaa
open Go.RowKit
theorem one_at {w : World} {N : Nat} {e : TypeId} (hN : w.heap.size = N) : tInts.at (w.alloc (.cells #[.int .i64 1] e)) [.slice (some ⟨N, 0, none⟩) 1 1] (limbs 1) := by
  rw [limbs_1]
  exact Ty.fresh_at (lit_fresh fInt hN rfl rfl (by decide) (by intro x hx; simp at hx; subst hx; exact In64.small (by decide)))
theorem len_one : (limbs 1).length ≤ 1000 := by rw [limbs_1]; decide
end Go.Proofs.Ytnndjbomfcacfaa
/- Fractions: the reference's negative, copy. -/
namespace Go.Proofs.Ytnndjbomfcacfaa
open Go.RowKit
theorem frNeg_fr {B : Nat} {w : World} {f : Fr} {x y : Value} (h : tRat.fresh B w [.bool (decide (-f.1 < 0)), x, y] ((decide (-f.1 < 0), limbs f.1.natAbs), limbs f.2)) : RatFr B w (frNeg f) x y := by
  unfold RatFr encR encZ frNeg
  simp only [Int.natAbs_neg]
  exact h
theorem ratFr_of {B : Nat} {w : World} {f : Fr} {x y : Value} (h : tRat.fresh B w [.bool (decide (f.1 < 0)), x, y] ((decide (f.1 < 0), limbs f.1.natAbs), limbs f.2)) : RatFr B w f x y := h
set_option maxRecDepth 8000 in
set_option maxHeartbeats 12800000 in
theorem spec_l04Copy (f : Fr) (up vp : Value) (w : World) (hp : RatAt w f up vp) (kp : Vd f) :
    Calls Try.prog 44 #[.agg #[.bool (decide (f.1 < 0)), up, vp]] w fun e w' => ∃ x y, e = .returned (.agg #[.bool (decide (f.1 < 0)), x, y]) ∧ More w w' ∧ RatFr w.heap.size w' f x y := by
  obtain ⟨i0, hi, iz0, iz1, iz2⟩ := info_parts infoInt_
  obtain ⟨pa, pn, pc, pd, pm, pe, rfl, rfl, p1, p2⟩ := hp.shL
  have Hp1 := Lib.hid hp.1; have Hp2 := Lib.hid hp.2; have Hp := Lib.hid hp; have Lp1 := Lib.hid kp.sm1; have Lp2 := Lib.hid kp.sm2; have Np1 := Lib.hid p1; have Np2 := Lib.hid p2; clear hp p1 p2
  obtain ⟨s, zp⟩ : ∃ b, decide (f.1 < 0) = b := ⟨_, rfl⟩
  rw [zp]
  have Sp := Lib.hid zp; clear zp
  have HC : ∀ w', Turns [w.heap.size + 1] ((w.alloc (.cells #[.bool s, .slice pa pn pc, .slice pd pm pe] 55)).alloc (.cells #[.bool false, .slice none 0 0, .slice none 0 0] 55)) w' → w'.cell? ⟨w.heap.size, 0, none⟩ = some (.bool s) ∧ w'.cell? ⟨w.heap.size, 1, none⟩ = some (.slice pa pn pc) ∧ w'.cell? ⟨w.heap.size, 2, none⟩ = some (.slice pd pm pe) := fun w' h => ⟨cell_heap (box_new (by simp) (More.un (More.refl _)) 0) (h.block _ (by simp <;> omega) (by simp <;> omega)), cell_heap (box_new (by simp) (More.un (More.refl _)) 1) (h.block _ (by simp <;> omega) (by simp <;> omega)), cell_heap (box_new (by simp) (More.un (More.refl _)) 2) (h.block _ (by simp <;> omega) (by simp <;> omega))⟩
  have HX : More ((w.alloc (.cells #[.bool s, .slice pa pn pc, .slice pd pm pe] 55)).alloc (.cells #[.bool false, .slice none 0 0, .slice none 0 0] 55)) ((w.alloc (.cells #[.bool s, .slice pa pn pc, .slice pd pm pe] 55)).alloc (.cells #[.bool false, .slice none 0 0, .slice none 0 0] 55)) := More.refl _
  have HB : ∀ w', More ((w.alloc (.cells #[.bool s, .slice pa pn pc, .slice pd pm pe] 55)).alloc (.cells #[.bool false, .slice none 0 0, .slice none 0 0] 55)) w' → w'.cell? ⟨w.heap.size, 0, none⟩ = some (.bool s) ∧ w'.cell? ⟨w.heap.size, 1, none⟩ = some (.slice pa pn pc) ∧ w'.cell? ⟨w.heap.size, 2, none⟩ = some (.slice pd pm pe) ∧ (∀ j, w'.frozen? ⟨w.heap.size, j, none⟩ = false) ∧ w'.cell? ⟨w.heap.size + 1, 0, none⟩ = some (.bool false) ∧ w'.cell? ⟨w.heap.size + 1, 1, none⟩ = some (.slice none 0 0) ∧ w'.cell? ⟨w.heap.size + 1, 2, none⟩ = some (.slice none 0 0) ∧ (∀ j, w'.frozen? ⟨w.heap.size + 1, j, none⟩ = false) := fun w' h => ⟨box_new (by simp) (More.un h) 0, box_new (by simp) (More.un h) 1, box_new (by simp) (More.un h) 2, fun j => box_free (by simp) (More.un h) j, box_new (by simp) h 0, box_new (by simp) h 1, box_new (by simp) h 2, fun j => box_free (by simp) h j⟩
  go_enter Try.func44, Try.ntmps44
  go_wp2_with fail
  go_region_held3 (fun w' => Turns [w.heap.size + 1] ((w.alloc (.cells #[.bool s, .slice pa pn pc, .slice pd pm pe] 55)).alloc (.cells #[.bool false, .slice none 0 0, .slice none 0 0] 55)) w') (first | exact tC | exact mC2) (first | (refine step_copyAll fInt rfl _ _ 44 rfl 3 i0 (.int .i64 0) 8 Try.underlying44 hi iz0 iz1 iz2 rfl (by decide) rfl (u := (.slice pa pn pc)) rfl (Ty.at_more Hp1.out mC) (Lib.hid (Nat.le_trans Lp1.out (by decide))) (by decide) ?_; intro v3 w3 f3 hb3; obtain ⟨x3a, x3n, x3c, rfl⟩ := sh1 (Ty.fresh_at f3); have F3 := Lib.hid f3; clear f3; have HX3 : More ((w.alloc (.cells #[.bool s, .slice pa pn pc, .slice pd pm pe] 55)).alloc (.cells #[.bool false, .slice none 0 0, .slice none 0 0] 55)) w3 := mC; have HB3 := HB _ HX3; have hz3 := More.size HX3; (try simp at hz3); have hb3 := hb3) | (refine step_copyAll fInt rfl _ _ 44 rfl 3 i0 (.int .i64 0) 8 Try.underlying44 hi iz0 iz1 iz2 rfl (by decide) rfl (u := (.slice pd pm pe)) rfl (Ty.at_more Hp2.out mC) (Lib.hid (Nat.le_trans Lp2.out (by decide))) (by decide) ?_; intro v4 w4 f4 hb4; obtain ⟨x4a, x4n, x4c, rfl⟩ := sh1 (Ty.fresh_at f4); have F4 := Lib.hid f4; clear f4; have HX4 : More ((w.alloc (.cells #[.bool s, .slice pa pn pc, .slice pd pm pe] 55)).alloc (.cells #[.bool false, .slice none 0 0, .slice none 0 0] 55)) w4 := mC; have HB4 := HB _ HX4; have hz4 := More.size HX4; (try simp at hz4); have hb4 := hb4))
  all_goals
    go_wp2_with fail
    refine bodyPost_ret (v := .agg #[.bool s, .slice x3a x3n x3c, .slice x4a x4n x4c]) ?_ rfl ?_
    rotate_left
    · exact ⟨_, _, rfl, mC2, by first | exact ratFr_of (by rw [Sp.out]; exact Ty.fresh_mono (rat_fA (bs := [w.heap.size + 1]) (B := ((w.alloc (.cells #[.bool s, .slice pa pn pc, .slice pd pm pe] 55)).alloc (.cells #[.bool false, .slice none 0 0, .slice none 0 0] 55)).heap.size) (Ty.fresh_mono F3.out (by have h7 := hz3; have h8 := hz4; have h1 := hb3.size; have h2 := hb4.size; (try simp at h7 h8 h1 h2); simp <;> omega)) (Ty.fresh_mono F4.out (by have h7 := hz3; have h8 := hz4; have h1 := hb3.size; have h2 := hb4.size; (try simp at h7 h8 h1 h2); simp <;> omega)) tC tC (by simp) (by have h7 := hz3; have h8 := hz4; have h1 := hb3.size; have h2 := hb4.size; (try simp at h7 h8 h1 h2); simp <;> omega)) (by simp; try omega)) | exact ratFr_of (by rw [Sp.out]; exact Ty.fresh_mono (rat_fB (bs := [w.heap.size + 1]) (B := ((w.alloc (.cells #[.bool s, .slice pa pn pc, .slice pd pm pe] 55)).alloc (.cells #[.bool false, .slice none 0 0, .slice none 0 0] 55)).heap.size) (Ty.fresh_mono F4.out (by have h7 := hz3; have h8 := hz4; have h1 := hb3.size; have h2 := hb4.size; (try simp at h7 h8 h1 h2); simp <;> omega)) (Ty.fresh_mono F3.out (by have h7 := hz3; have h8 := hz4; have h1 := hb3.size; have h2 := hb4.size; (try simp at h7 h8 h1 h2); simp <;> omega)) tC tC (by simp) (by have h7 := hz3; have h8 := hz4; have h1 := hb3.size; have h2 := hb4.size; (try simp at h7 h8 h1 h2); simp <;> omega)) (by simp; try omega))⟩
    · simp [results, Try.results44, go_sem, *]
theorem spec_l04CopyB (f : Fr) (b : Bool) (up vp : Value)  (w : World) (hb : decide (f.1 < 0) = b) (hp : RatAt w f up vp) (kp : Vd f) :
    Calls Try.prog 44 #[.agg #[.bool b, up, vp]] w fun e w' => ∃ x y, e = .returned (.agg #[.bool (decide (f.1 < 0)), x, y]) ∧ More w w' ∧ RatFr w.heap.size w' f x y := by
  subst hb
  exact spec_l04Copy f up vp w hp kp
end Go.Proofs.Ytnndjbomfcacfaa
/- Fractions: the reference's functions, on whatever lies in memory. -/
namespace Go.Proofs.Ytnndjbomfcacfaa
open Go.RowKit
theorem frAdd_l {f g : Fr} (h : f = (0, 0)) : frAdd f g = (0, 0) := by unfold frAdd; rw [if_pos (.inl (by rw [h]))]
theorem frAdd_r {f g : Fr} (h : g = (0, 0)) : frAdd f g = (0, 0) := by unfold frAdd; rw [if_pos (.inr (by rw [h]))]
theorem frMul_l {f g : Fr} (h : f = (0, 0)) : frMul f g = (0, 0) := by unfold frMul; rw [if_pos (.inl (by rw [h]))]
theorem frMul_r {f g : Fr} (h : g = (0, 0)) : frMul f g = (0, 0) := by unfold frMul; rw [if_pos (.inr (by rw [h]))]
theorem frSub_l {f g : Fr} (h : f = (0, 0)) : frSub f g = (0, 0) := frAdd_l h
theorem frSub_r {f g : Fr} (h : g = (0, 0)) : frSub f g = (0, 0) := frAdd_r (by rw [h]; rfl)
theorem fr_ne {x : QR} (h : ratOkB x = true) : (frOf x).2 ≠ 0 := fun e => by
  have := ratOk_frOf x
  rw [h, e] at this
  cases this
theorem raw_of {w : World} {f : Fr} {u v : Value} (h : RatAt w f u v) : tRat.at w [.bool (decide (f.1 < 0)), u, v] (encR f) := h.out
theorem wRat_enc {f : Fr} (h : Vd f) : wRat (encR f) ≤ 1048576 := by
  have h1 := h.sm1
  have h2 := h.sm2
  show (limbs f.1.natAbs).length + (limbs f.2).length ≤ 1048576
  omega
end Go.Proofs.Ytnndjbomfcacfaa
/- Fractions of two whole numbers. -/
namespace Go.Proofs.Ytnndjbomfcacfaa
open Go.RowKit
theorem bigOk_encZ {z : Int} (h : (limbs z.natAbs).length ≤ 60) : bigOkB (encZ z) = true := by
  unfold bigOkB
  rw [Bool.and_eq_true]
  refine ⟨natOk_limbs h, ?_⟩
  show (!(decide (z < 0) && decide ((limbs z.natAbs).length = 0))) = true
  by_cases hz : (limbs z.natAbs).length = 0
  · have := limbs_nil.1 (List.eq_nil_of_length_eq_zero hz)
    have : ¬ z < 0 := by omega
    simp [this]
  · simp [hz]
noncomputable def frQ (x y : Int) : Fr := frL (!(decide (x < 0) == decide (y < 0))) x.natAbs y.natAbs
theorem frQ_vd (x y : Int) : Vd (frQ x y) := frL_vd _ _ _
theorem frMul_comm (f g : Fr) : frMul f g = frMul g f := by
  unfold frMul
  by_cases h : f.2 = 0 ∨ g.2 = 0
  · rw [if_pos h, if_pos (Or.comm.1 h)]
  · rw [if_neg h, if_neg (fun k => h (Or.comm.1 k)), Int.mul_comm, Nat.mul_comm]
theorem sl3 {w : World} {v : Value} {l : List Int} (h : tInts.at w [v] l) : ∃ (a : Option Addr) (n c : Nat), v = .slice a n c ∧ n = l.length := by
  obtain ⟨ao, cap, rfl⟩ := sl_len h
  exact ⟨_, _, _, rfl, rfl⟩
end Go.Proofs.Ytnndjbomfcacfaa
