/- Several texts laid together; each has its own word at its head. -/
import Derived.Test.YtiapendgjapgmaaRmk
import Derived.Test.YtiapendgjapgmaaNatH
import Derived.Test.YtiapendgjapgmaaCmp
import Derived.Test.YtiapendgjapgmaaGInt
import Derived.Test.YtiapendgjapgmaaRa2
/- Fractions in lowest terms: the reference's making. -/
namespace Go.Proofs.Ytiapendgjapgmaa
open Go.RowKit
theorem frMk_sgn0 (s : Bool) (m d : Nat) : frMk (sgn s m) d = if sm (m / Nat.gcd m d) && sm (d / Nat.gcd m d) then (sgn s (m / Nat.gcd m d), d / Nat.gcd m d) else (0, 0) := by
  by_cases h : m = 0
  · subst h
    have h0 : ∀ b, sgn b 0 = 0 := fun b => by cases b <;> rfl
    unfold frMk
    rw [natAbs_sgn, Nat.zero_div, h0, h0]
  · exact frMk_sgn (fun _ => h)
theorem RatFr.mk0 {B : Nat} {w : World} {x y : Value} {s : Bool} {M D : Nat} (h : tRat.fresh B w [.bool (decide (sgn s M < 0)), x, y] ((decide (sgn s M < 0), limbs M), limbs D)) : RatFr B w (sgn s M, D) x y := by
  unfold RatFr encR encZ
  simp only [natAbs_sgn]
  exact h
def frL (s : Bool) (m d : Nat) : Fr := if d = 0 then (0, 0) else frMk (sgn s m) d
theorem frL_vd (s : Bool) (m d : Nat) : Vd (frL s m d) := by
  unfold frL
  split
  · exact .inl rfl
  · rename_i h
    exact frMk_vd _ h
end Go.Proofs.Ytiapendgjapgmaa
/- Fractions: the reference's products. -/
namespace Go.Proofs.Ytiapendgjapgmaa
open Go.RowKit
theorem sgn_mulZ {x y : Int} {s t : Bool} (hs : decide (x < 0) = s) (ht : decide (y < 0) = t) : sgn (s != t) (x * y).natAbs = x * y := by
  show sgn (!(s == t)) _ = _
  rw [Int.natAbs_mul, ← sgn_mul, sgn_of hs, sgn_of ht]
theorem at_mulZZ {w : World} {v : Value} {x y : Int} (h : tInts.at w [v] (limbs (x.natAbs * y.natAbs))) : tInts.at w [v] (limbs (x * y).natAbs) := by rw [Int.natAbs_mul]; exact h
end Go.Proofs.Ytiapendgjapgmaa
/- Fractions: the reference's sums. -/
namespace Go.Proofs.Ytiapendgjapgmaa
open Go.RowKit
theorem one_at {w : World} {N : Nat} {e : TypeId} (hN : w.heap.size = N) : tInts.at (w.alloc (.cells #[.int .i64 1] e)) [.slice (some ⟨N, 0, none⟩) 1 1] (limbs 1) := by
  rw [limbs_1]
  exact Ty.fresh_at (lit_fresh fInt hN rfl rfl (by decide) (by intro x hx; simp at hx; subst hx; exact In64.small (by decide)))
theorem len_one : (limbs 1).length ≤ 1000 := by rw [limbs_1]; decide
end Go.Proofs.Ytiapendgjapgmaa
/- Fractions: the reference's negative, copy. -/
namespace Go.Proofs.Ytiapendgjapgmaa
open Go.RowKit
theorem frNeg_fr {B : Nat} {w : World} {f : Fr} {x y : Value} (h : tRat.fresh B w [.bool (decide (-f.1 < 0)), x, y] ((decide (-f.1 < 0), limbs f.1.natAbs), limbs f.2)) : RatFr B w (frNeg f) x y := by
  unfold RatFr encR encZ frNeg
  simp only [Int.natAbs_neg]
  exact h
theorem ratFr_of {B : Nat} {w : World} {f : Fr} {x y : Value} (h : tRat.fresh B w [.bool (decide (f.1 < 0)), x, y] ((decide (f.1 < 0), limbs f.1.natAbs), limbs f.2)) : RatFr B w f x y := h
set_option maxRecDepth 8000 in
set_option maxHeartbeats 12800000 in
theorem spec_l04Copy (f : Fr) (up vp : Value) (w : World) (hp : RatAt w f up vp) (kp : Vd f) :
    Calls Try.prog 74 #[.agg #[.bool (decide (f.1 < 0)), up, vp]] w fun e w' => ∃ x y, e = .returned (.agg #[.bool (decide (f.1 < 0)), x, y]) ∧ More w w' ∧ RatFr w.heap.size w' f x y := by
  obtain ⟨i0, hi, iz0, iz1, iz2⟩ := info_parts infoInt_
  obtain ⟨pa, pn, pc, pd, pm, pe, rfl, rfl, p1, p2⟩ := hp.shL
  have Hp1 := Lib.hid hp.1; have Hp2 := Lib.hid hp.2; have Hp := Lib.hid hp; have Lp1 := Lib.hid kp.sm1; have Lp2 := Lib.hid kp.sm2; have Np1 := Lib.hid p1; have Np2 := Lib.hid p2; clear hp p1 p2
  obtain ⟨s, zp⟩ : ∃ b, decide (f.1 < 0) = b := ⟨_, rfl⟩
  rw [zp]
  have Sp := Lib.hid zp; clear zp
  have HC : ∀ w', Turns [w.heap.size + 1] ((w.alloc (.cells #[.bool s, .slice pa pn pc, .slice pd pm pe] 32)).alloc (.cells #[.bool false, .slice none 0 0, .slice none 0 0] 32)) w' → w'.cell? ⟨w.heap.size, 0, none⟩ = some (.bool s) ∧ w'.cell? ⟨w.heap.size, 1, none⟩ = some (.slice pa pn pc) ∧ w'.cell? ⟨w.heap.size, 2, none⟩ = some (.slice pd pm pe) := fun w' h => ⟨cell_heap (box_new (by simp) (More.un (More.refl _)) 0) (h.block _ (by simp <;> omega) (by simp <;> omega)), cell_heap (box_new (by simp) (More.un (More.refl _)) 1) (h.block _ (by simp <;> omega) (by simp <;> omega)), cell_heap (box_new (by simp) (More.un (More.refl _)) 2) (h.block _ (by simp <;> omega) (by simp <;> omega))⟩
  have HX : More ((w.alloc (.cells #[.bool s, .slice pa pn pc, .slice pd pm pe] 32)).alloc (.cells #[.bool false, .slice none 0 0, .slice none 0 0] 32)) ((w.alloc (.cells #[.bool s, .slice pa pn pc, .slice pd pm pe] 32)).alloc (.cells #[.bool false, .slice none 0 0, .slice none 0 0] 32)) := More.refl _
  have HB : ∀ w', More ((w.alloc (.cells #[.bool s, .slice pa pn pc, .slice pd pm pe] 32)).alloc (.cells #[.bool false, .slice none 0 0, .slice none 0 0] 32)) w' → w'.cell? ⟨w.heap.size, 0, none⟩ = some (.bool s) ∧ w'.cell? ⟨w.heap.size, 1, none⟩ = some (.slice pa pn pc) ∧ w'.cell? ⟨w.heap.size, 2, none⟩ = some (.slice pd pm pe) ∧ (∀ j, w'.frozen? ⟨w.heap.size, j, none⟩ = false) ∧ w'.cell? ⟨w.heap.size + 1, 0, none⟩ = some (.bool false) ∧ w'.cell? ⟨w.heap.size + 1, 1, none⟩ = some (.slice none 0 0) ∧ w'.cell? ⟨w.heap.size + 1, 2, none⟩ = some (.slice none 0 0) ∧ (∀ j, w'.frozen? ⟨w.heap.size + 1, j, none⟩ = false) := fun w' h => ⟨box_new (by simp) (More.un h) 0, box_new (by simp) (More.un h) 1, box_new (by simp) (More.un h) 2, fun j => box_free (by simp) (More.un h) j, box_new (by simp) h 0, box_new (by simp) h 1, box_new (by simp) h 2, fun j => box_free (by simp) h j⟩
  go_enter Try.func74, Try.ntmps74
  go_wp2_with fail
  go_region_held3 (fun w' => Turns [w.heap.size + 1] ((w.alloc (.cells #[.bool s, .slice pa pn pc, .slice pd pm pe] 32)).alloc (.cells #[.bool false, .slice none 0 0, .slice none 0 0] 32)) w') (first | exact tC | exact mC2) (first | (refine step_copyAll fInt rfl _ _ 28 rfl 3 i0 (.int .i64 0) 8 Try.underlying28 hi iz0 iz1 iz2 rfl (by decide) rfl (u := (.slice pa pn pc)) rfl (Ty.at_more Hp1.out mC) (Lib.hid (Nat.le_trans Lp1.out (by decide))) (by decide) ?_; intro v3 w3 f3 hb3; obtain ⟨x3a, x3n, x3c, rfl⟩ := sh1 (Ty.fresh_at f3); have F3 := Lib.hid f3; clear f3; have HX3 : More ((w.alloc (.cells #[.bool s, .slice pa pn pc, .slice pd pm pe] 32)).alloc (.cells #[.bool false, .slice none 0 0, .slice none 0 0] 32)) w3 := mC; have HB3 := HB _ HX3; have hz3 := More.size HX3; (try simp at hz3); have hb3 := hb3) | (refine step_copyAll fInt rfl _ _ 28 rfl 3 i0 (.int .i64 0) 8 Try.underlying28 hi iz0 iz1 iz2 rfl (by decide) rfl (u := (.slice pd pm pe)) rfl (Ty.at_more Hp2.out mC) (Lib.hid (Nat.le_trans Lp2.out (by decide))) (by decide) ?_; intro v4 w4 f4 hb4; obtain ⟨x4a, x4n, x4c, rfl⟩ := sh1 (Ty.fresh_at f4); have F4 := Lib.hid f4; clear f4; have HX4 : More ((w.alloc (.cells #[.bool s, .slice pa pn pc, .slice pd pm pe] 32)).alloc (.cells #[.bool false, .slice none 0 0, .slice none 0 0] 32)) w4 := mC; have HB4 := HB _ HX4; have hz4 := More.size HX4; (try simp at hz4); have hb4 := hb4))
  all_goals
    go_wp2_with fail
    refine bodyPost_ret (v := .agg #[.bool s, .slice x3a x3n x3c, .slice x4a x4n x4c]) ?_ rfl ?_
    rotate_left
    · exact ⟨_, _, rfl, mC2, by first | exact ratFr_of (by rw [Sp.out]; exact Ty.fresh_mono (rat_fA (bs := [w.heap.size + 1]) (B := ((w.alloc (.cells #[.bool s, .slice pa pn pc, .slice pd pm pe] 32)).alloc (.cells #[.bool false, .slice none 0 0, .slice none 0 0] 32)).heap.size) (Ty.fresh_mono F3.out (by have h7 := hz3; have h8 := hz4; have h1 := hb3.size; have h2 := hb4.size; (try simp at h7 h8 h1 h2); simp <;> omega)) (Ty.fresh_mono F4.out (by have h7 := hz3; have h8 := hz4; have h1 := hb3.size; have h2 := hb4.size; (try simp at h7 h8 h1 h2); simp <;> omega)) tC tC (by simp) (by have h7 := hz3; have h8 := hz4; have h1 := hb3.size; have h2 := hb4.size; (try simp at h7 h8 h1 h2); simp <;> omega)) (by simp; try omega)) | exact ratFr_of (by rw [Sp.out]; exact Ty.fresh_mono (rat_fB (bs := [w.heap.size + 1]) (B := ((w.alloc (.cells #[.bool s, .slice pa pn pc, .slice pd pm pe] 32)).alloc (.cells #[.bool false, .slice none 0 0, .slice none 0 0] 32)).heap.size) (Ty.fresh_mono F4.out (by have h7 := hz3; have h8 := hz4; have h1 := hb3.size; have h2 := hb4.size; (try simp at h7 h8 h1 h2); simp <;> omega)) (Ty.fresh_mono F3.out (by have h7 := hz3; have h8 := hz4; have h1 := hb3.size; have h2 := hb4.size; (try simp at h7 h8 h1 h2); simp <;> omega)) tC tC (by simp) (by have h7 := hz3; have h8 := hz4; have h1 := hb3.size; have h2 := hb4.size; (try simp at h7 h8 h1 h2); simp <;> omega)) (by simp; try omega))⟩
    · simp [results, Try.results74, go_sem, *]
theorem spec_l04CopyB (f : Fr) (b : Bool) (up vp : Value)  (w : World) (hb : decide (f.1 < 0) = b) (hp : RatAt w f up vp) (kp : Vd f) :
    Calls Try.prog 74 #[.agg #[.bool b, up, vp]] w fun e w' => ∃ x y, e = .returned (.agg #[.bool (decide (f.1 < 0)), x, y]) ∧ More w w' ∧ RatFr w.heap.size w' f x y := by
  subst hb
  exact spec_l04Copy f up vp w hp kp
end Go.Proofs.Ytiapendgjapgmaa
/- Fractions: the reference's functions, on whatever lies in memory. -/
namespace Go.Proofs.Ytiapendgjapgmaa
open Go.RowKit
theorem frAdd_l {f g : Fr} (h : f = (0, 0)) : frAdd f g = (0, 0) := by unfold frAdd; rw [if_pos (.inl (by rw [h]))]
theorem frAdd_r {f g : Fr} (h : g = (0, 0)) : frAdd f g = (0, 0) := by unfold frAdd; rw [if_pos (.inr (by rw [h]))]
theorem frMul_l {f g : Fr} (h : f = (0, 0)) : frMul f g = (0, 0) := by unfold frMul; rw [if_pos (.inl (by rw [h]))]
theorem frMul_r {f g : Fr} (h : g = (0, 0)) : frMul f g = (0, 0) := by unfold frMul; rw [if_pos (.inr (by rw [h]))]
theorem frSub_l {f g : Fr} (h : f = (0, 0)) : frSub f g = (0, 0) := frAdd_l h
theorem frSub_r {f g : Fr} (h : g = (0, 0)) : frSub f g = (0, 0) := frAdd_r (by rw [h]; rfl)
theorem fr_ne {x : QR} (h : ratOkB x = true) : (frOf x).2 ≠ 0 := fun e => by
  have := ratOk_frOf x
  rw [h, e] at this
  cases this
theorem raw_of {w : World} {f : Fr} {u v : Value} (h : RatAt w f u v) : tRat.at w [.bool (decide (f.1 < 0)), u, v] (encR f) := h.out
theorem wRat_enc {f : Fr} (h : Vd f) : wRat (encR f) ≤ 1048576 := by
  have h1 := h.sm1
  have h2 := h.sm2
  show (limbs f.1.natAbs).length + (limbs f.2).length ≤ 1048576
  omega
end Go.Proofs.Ytiapendgjapgmaa
/- Fractions of two whole numbers. -/
namespace Go.Proofs.Ytiapendgjapgmaa
open Go.RowKit
theorem bigOk_encZ {z : Int} (h : (limbs z.natAbs).length ≤ 60) : bigOkB (encZ z) = true := by
  unfold bigOkB
  rw [Bool.and_eq_true]
  refine ⟨natOk_limbs h, ?_⟩
  show (!(decide (z < 0) && decide ((limbs z.natAbs).length = 0))) = true
  by_cases hz : (limbs z.natAbs).length = 0
  · have := limbs_nil.1 (List.eq_nil_of_length_eq_zero hz)
    have : ¬ z < 0 := by omega
    simp [this]
  · simp [hz]
noncomputable def frQ (x y : Int) : Fr := frL (!(decide (x < 0) == decide (y < 0))) x.natAbs y.natAbs
theorem frQ_vd (x y : Int) : Vd (frQ x y) := frL_vd _ _ _
theorem frMul_comm (f g : Fr) : frMul f g = frMul g f := by
  unfold frMul
  by_cases h : f.2 = 0 ∨ g.2 = 0
  · rw [if_pos h, if_pos (Or.comm.1 h)]
  · rw [if_neg h, if_neg (fun k => h (Or.comm.1 k)), Int.mul_comm, Nat.mul_comm]
theorem sl3 {w : World} {v : Value} {l : List Int} (h : tInts.at w [v] l) : ∃ (a : Option Addr) (n c : Nat), v = .slice a n c ∧ n = l.length := by
  obtain ⟨ao, cap, rfl⟩ := sl_len h
  exact ⟨_, _, _, rfl, rfl⟩
set_option maxHeartbeats 3200000 in
theorem impl_areBigZ (x y : Int) (s t : Bool) (v v' : Value) (w : World) (hs : decide (x < 0) = s) (ht : decide (y < 0) = t) (hv : tInts.at w [v] (limbs x.natAbs)) (hv' : tInts.at w [v'] (limbs y.natAbs)) (hl : (limbs x.natAbs).length ≤ 60) (hm : (limbs y.natAbs).length ≤ 60) :
    Calls Try.prog 109 #[.agg #[.bool s, v], .agg #[.bool t, v']] w fun e w' => e = .returned (.bool true) ∧ More w w' := by
  obtain ⟨pa, pn, pc, hp⟩ := sl3 hv
  obtain ⟨qa, qn, qc, hq⟩ := sl3 hv'
  obtain ⟨rfl, hpn⟩ := hp
  obtain ⟨rfl, hqn⟩ := hq
  have HP := Lib.hid hv; have HQ := Lib.hid hv'; have LP := Lib.hid hl; have LQ := Lib.hid hm; have SP := Lib.hid hs; have SQ := Lib.hid ht; clear hv hv' hl hm hs ht hpn hqn
  have KP : Hid (bigOkB (encZ x) = true) := Lib.hid (bigOk_encZ LP.out); have KQ : Hid (bigOkB (encZ y) = true) := Lib.hid (bigOk_encZ LQ.out)
  have SPE : Hid ((encZ x).1 = s) := Lib.hid SP.out; have SQE : Hid ((encZ y).1 = t) := Lib.hid SQ.out
  have HPE : Hid (tInts.at w [.slice pa pn pc] (encZ x).2) := Lib.hid HP.out; have HQE : Hid (tInts.at w [.slice qa qn qc] (encZ y).2) := Lib.hid HQ.out
  have LPE : Hid ((encZ x).2.length ≤ 1048576) := Lib.hid (Nat.le_trans LP.out (by decide)); have LQE : Hid ((encZ y).2.length ≤ 1048576) := Lib.hid (Nat.le_trans LQ.out (by decide))
  have HX : More ((w.alloc (.cells #[.bool s, .slice pa pn pc] 30)).alloc (.cells #[.bool t, .slice qa qn qc] 30)) ((w.alloc (.cells #[.bool s, .slice pa pn pc] 30)).alloc (.cells #[.bool t, .slice qa qn qc] 30)) := More.refl _
  have HB : ∀ w', More ((w.alloc (.cells #[.bool s, .slice pa pn pc] 30)).alloc (.cells #[.bool t, .slice qa qn qc] 30)) w' → w'.cell? ⟨w.heap.size, 0, none⟩ = some (.bool s) ∧ w'.cell? ⟨w.heap.size, 1, none⟩ = some (.slice pa pn pc) ∧ (∀ j, w'.frozen? ⟨w.heap.size, j, none⟩ = false) ∧ w'.cell? ⟨w.heap.size + 1, 0, none⟩ = some (.bool t) ∧ w'.cell? ⟨w.heap.size + 1, 1, none⟩ = some (.slice qa qn qc) ∧ (∀ j, w'.frozen? ⟨w.heap.size + 1, j, none⟩ = false) := fun w' h => ⟨box_new (by simp) (More.un h) 0, box_new (by simp) (More.un h) 1, fun j => box_free (by simp) (More.un h) j, box_new (by simp) h 0, box_new (by simp) h 1, fun j => box_free (by simp) h j⟩
  have HC := fun (w' : World) (h : Turns [] ((w.alloc (.cells #[.bool s, .slice pa pn pc] 30)).alloc (.cells #[.bool t, .slice qa qn qc] 30)) w') => HB w' (Turns.more h)
  go_enter Try.func109, Try.ntmps109
  go_wp2_with (first | (go_at_call 59; (with_reducible refine (impl_BigIntOk s (.slice pa pn pc) (encZ x) _ SPE.out (Ty.at_more HPE.out mC) LPE.out).mono ?_); rintro e w1 ⟨rfl, hb1⟩; have HX1 : More ((w.alloc (.cells #[.bool s, .slice pa pn pc] 30)).alloc (.cells #[.bool t, .slice qa qn qc] 30)) w1 := mC; have HB1 := HB _ HX1; have hz1 := More.size HX1; (try simp at hz1); have hb1 := hb1; rw [KP.out]) | (go_at_call 59; (with_reducible refine (impl_BigIntOk t (.slice qa qn qc) (encZ y) _ SQE.out (Ty.at_more HQE.out mC) LQE.out).mono ?_); rintro e w2 ⟨rfl, hb2⟩; have HX2 : More ((w.alloc (.cells #[.bool s, .slice pa pn pc] 30)).alloc (.cells #[.bool t, .slice qa qn qc] 30)) w2 := mC; have HB2 := HB _ HX2; have hz2 := More.size HX2; (try simp at hz2); have hb2 := hb2; rw [KQ.out]))
  go_ret
  exact ⟨rfl, mC⟩
set_option maxRecDepth 8000 in
set_option maxHeartbeats 12800000 in
theorem impl_RatMakeZ (x y : Int) (s t : Bool) (v v' : Value) (w : World) (hs : decide (x < 0) = s) (ht : decide (y < 0) = t) (hv : tInts.at w [v] (limbs x.natAbs)) (hv' : tInts.at w [v'] (limbs y.natAbs)) (hl : (limbs x.natAbs).length ≤ 60) (hm : (limbs y.natAbs).length ≤ 60) :
    Calls Try.prog 86 #[.agg #[.bool s, v], .agg #[.bool t, v']] w fun e w' => ∃ u v, e = .returned (.agg #[.bool (decide ((frQ x y).1 < 0)), u, v]) ∧ More w w' ∧ RatFr w.heap.size w' (frQ x y) u v := by
  obtain ⟨pa, pn, pc, hp⟩ := sl3 hv
  obtain ⟨qa, qn, qc, hq⟩ := sl3 hv'
  obtain ⟨rfl, hpn⟩ := hp
  obtain ⟨rfl, hqn⟩ := hq
  have HP := Lib.hid hv; have HQ := Lib.hid hv'; have LP := Lib.hid hl; have LQ := Lib.hid hm; have SP := Lib.hid hs; have SQ := Lib.hid ht; have NP := Lib.hid hpn; have NQ := Lib.hid hqn; clear hv hv' hl hm hs ht hpn hqn
  have KP : Hid (bigOkB (encZ x) = true) := Lib.hid (bigOk_encZ LP.out); have KQ : Hid (bigOkB (encZ y) = true) := Lib.hid (bigOk_encZ LQ.out)
  have SPE : Hid ((encZ x).1 = s) := Lib.hid SP.out; have SQE : Hid ((encZ y).1 = t) := Lib.hid SQ.out
  have HPE : Hid (tInts.at w [.slice pa pn pc] (encZ x).2) := Lib.hid HP.out; have HQE : Hid (tInts.at w [.slice qa qn qc] (encZ y).2) := Lib.hid HQ.out
  have LPE : Hid ((encZ x).2.length ≤ 1048576) := Lib.hid (Nat.le_trans LP.out (by decide)); have LQE : Hid ((encZ y).2.length ≤ 1048576) := Lib.hid (Nat.le_trans LQ.out (by decide))
  by_cases h0 : y = 0
  · have hq0 : qn = 0 := by rw [NQ.out, h0]; simp [limbs_zero]
    subst hq0
    rw [show frQ x y = (0, 0) from by unfold frQ frL; rw [if_pos (by rw [h0]; rfl)]]
    show Calls _ _ _ _ (fun e w' => ∃ u v, e = .returned (.agg #[.bool false, u, v]) ∧ More w w' ∧ RatFr w.heap.size w' (0, 0) u v)
    clear h0
    have HC : ∀ w', Turns [w.heap.size + 1 + 1] (((w.alloc (.cells #[.bool s, .slice pa pn pc] 30)).alloc (.cells #[.bool t, .slice qa 0 qc] 30)).alloc (.cells #[.bool false, .slice none 0 0, .slice none 0 0] 32)) w' → w'.cell? ⟨w.heap.size, 0, none⟩ = some (.bool s) ∧ w'.cell? ⟨w.heap.size, 1, none⟩ = some (.slice pa pn pc) ∧ w'.cell? ⟨w.heap.size + 1, 0, none⟩ = some (.bool t) ∧ w'.cell? ⟨w.heap.size + 1, 1, none⟩ = some (.slice qa 0 qc) := fun w' h => ⟨cell_heap (box_new (by simp) (More.un (More.un (More.refl _))) 0) (h.block _ (by simp <;> omega) (by simp <;> omega)), cell_heap (box_new (by simp) (More.un (More.un (More.refl _))) 1) (h.block _ (by simp <;> omega) (by simp <;> omega)), cell_heap (box_new (by simp) (More.un (More.refl _)) 0) (h.block _ (by simp <;> omega) (by simp <;> omega)), cell_heap (box_new (by simp) (More.un (More.refl _)) 1) (h.block _ (by simp <;> omega) (by simp <;> omega))⟩
    have HX : More (((w.alloc (.cells #[.bool s, .slice pa pn pc] 30)).alloc (.cells #[.bool t, .slice qa 0 qc] 30)).alloc (.cells #[.bool false, .slice none 0 0, .slice none 0 0] 32)) (((w.alloc (.cells #[.bool s, .slice pa pn pc] 30)).alloc (.cells #[.bool t, .slice qa 0 qc] 30)).alloc (.cells #[.bool false, .slice none 0 0, .slice none 0 0] 32)) := More.refl _
    have HB : ∀ w', More (((w.alloc (.cells #[.bool s, .slice pa pn pc] 30)).alloc (.cells #[.bool t, .slice qa 0 qc] 30)).alloc (.cells #[.bool false, .slice none 0 0, .slice none 0 0] 32)) w' → w'.cell? ⟨w.heap.size, 0, none⟩ = some (.bool s) ∧ w'.cell? ⟨w.heap.size, 1, none⟩ = some (.slice pa pn pc) ∧ (∀ j, w'.frozen? ⟨w.heap.size, j, none⟩ = false) ∧ w'.cell? ⟨w.heap.size + 1, 0, none⟩ = some (.bool t) ∧ w'.cell? ⟨w.heap.size + 1, 1, none⟩ = some (.slice qa 0 qc) ∧ (∀ j, w'.frozen? ⟨w.heap.size + 1, j, none⟩ = false) ∧ w'.cell? ⟨w.heap.size + 1 + 1, 0, none⟩ = some (.bool false) ∧ w'.cell? ⟨w.heap.size + 1 + 1, 1, none⟩ = some (.slice none 0 0) ∧ w'.cell? ⟨w.heap.size + 1 + 1, 2, none⟩ = some (.slice none 0 0) ∧ (∀ j, w'.frozen? ⟨w.heap.size + 1 + 1, j, none⟩ = false) := fun w' h => ⟨box_new (by simp) (More.un (More.un h)) 0, box_new (by simp) (More.un (More.un h)) 1, fun j => box_free (by simp) (More.un (More.un h)) j, box_new (by simp) (More.un h) 0, box_new (by simp) (More.un h) 1, fun j => box_free (by simp) (More.un h) j, box_new (by simp) h 0, box_new (by simp) h 1, box_new (by simp) h 2, fun j => box_free (by simp) h j⟩
    go_enter Try.func86, Try.ntmps86
    go_wp2_with (first | (go_at_call 109; (with_reducible refine (impl_areBigZ x y s t (.slice pa pn pc) (.slice qa 0 qc) _ SP.out SQ.out (Ty.at_more HP.out mC) (Ty.at_more HQ.out mC) LP.out LQ.out).mono ?_); rintro e w1 ⟨rfl, hb1⟩; have HX1 : More (((w.alloc (.cells #[.bool s, .slice pa pn pc] 30)).alloc (.cells #[.bool t, .slice qa 0 qc] 30)).alloc (.cells #[.bool false, .slice none 0 0, .slice none 0 0] 32)) w1 := mC; have HB1 := HB _ HX1; have hz1 := More.size HX1; (try simp at hz1); have hb1 := hb1))
    refine bodyPost_ret (v := .agg #[.bool false, .slice none 0 0, .slice none 0 0]) ?_ rfl ?_
    · simp [results, Try.results86, go_sem, *]
    · exact ⟨_, _, rfl, mC2, RatFr.zero⟩
  have hqn : qn ≠ 0 := by rw [NQ.out]; intro e; exact h0 (Int.natAbs_eq_zero.1 (limbs_nil.1 (List.eq_nil_of_length_eq_zero e)))
  have hqn' : (0 : Int) < (qn : Int) := by omega
  have hqb : ((qn : Int) == 0) = false := by simp <;> omega
  obtain ⟨Z, hZ⟩ : ∃ Z, Z = sgn (!(s == t)) x.natAbs := ⟨_, rfl⟩
  have EA : Hid (Z.natAbs = x.natAbs) := Lib.hid (by rw [hZ, natAbs_sgn])
  have EZ : Hid (decide (sgn (!(s == t)) x.natAbs < 0) = decide (Z < 0)) := Lib.hid (by rw [hZ])
  have HD0 : Hid (y.natAbs ≠ 0) := Lib.hid (by omega)
  rw [show frQ x y = frMk Z y.natAbs from by unfold frQ frL; rw [if_neg HD0.out, hZ, SP.out, SQ.out]]
  clear hZ h0 hqn
  have HC : ∀ w', Turns [w.heap.size + 1 + 1] (((w.alloc (.cells #[.bool s, .slice pa pn pc] 30)).alloc (.cells #[.bool t, .slice qa qn qc] 30)).alloc (.cells #[.bool false, .slice none 0 0, .slice none 0 0] 32)) w' → w'.cell? ⟨w.heap.size, 0, none⟩ = some (.bool s) ∧ w'.cell? ⟨w.heap.size, 1, none⟩ = some (.slice pa pn pc) ∧ w'.cell? ⟨w.heap.size + 1, 0, none⟩ = some (.bool t) ∧ w'.cell? ⟨w.heap.size + 1, 1, none⟩ = some (.slice qa qn qc) := fun w' h => ⟨cell_heap (box_new (by simp) (More.un (More.un (More.refl _))) 0) (h.block _ (by simp <;> omega) (by simp <;> omega)), cell_heap (box_new (by simp) (More.un (More.un (More.refl _))) 1) (h.block _ (by simp <;> omega) (by simp <;> omega)), cell_heap (box_new (by simp) (More.un (More.refl _)) 0) (h.block _ (by simp <;> omega) (by simp <;> omega)), cell_heap (box_new (by simp) (More.un (More.refl _)) 1) (h.block _ (by simp <;> omega) (by simp <;> omega))⟩
  have HX : More (((w.alloc (.cells #[.bool s, .slice pa pn pc] 30)).alloc (.cells #[.bool t, .slice qa qn qc] 30)).alloc (.cells #[.bool false, .slice none 0 0, .slice none 0 0] 32)) (((w.alloc (.cells #[.bool s, .slice pa pn pc] 30)).alloc (.cells #[.bool t, .slice qa qn qc] 30)).alloc (.cells #[.bool false, .slice none 0 0, .slice none 0 0] 32)) := More.refl _
  have HB : ∀ w', More (((w.alloc (.cells #[.bool s, .slice pa pn pc] 30)).alloc (.cells #[.bool t, .slice qa qn qc] 30)).alloc (.cells #[.bool false, .slice none 0 0, .slice none 0 0] 32)) w' → w'.cell? ⟨w.heap.size, 0, none⟩ = some (.bool s) ∧ w'.cell? ⟨w.heap.size, 1, none⟩ = some (.slice pa pn pc) ∧ (∀ j, w'.frozen? ⟨w.heap.size, j, none⟩ = false) ∧ w'.cell? ⟨w.heap.size + 1, 0, none⟩ = some (.bool t) ∧ w'.cell? ⟨w.heap.size + 1, 1, none⟩ = some (.slice qa qn qc) ∧ (∀ j, w'.frozen? ⟨w.heap.size + 1, j, none⟩ = false) ∧ w'.cell? ⟨w.heap.size + 1 + 1, 0, none⟩ = some (.bool false) ∧ w'.cell? ⟨w.heap.size + 1 + 1, 1, none⟩ = some (.slice none 0 0) ∧ w'.cell? ⟨w.heap.size + 1 + 1, 2, none⟩ = some (.slice none 0 0) ∧ (∀ j, w'.frozen? ⟨w.heap.size + 1 + 1, j, none⟩ = false) := fun w' h => ⟨box_new (by simp) (More.un (More.un h)) 0, box_new (by simp) (More.un (More.un h)) 1, fun j => box_free (by simp) (More.un (More.un h)) j, box_new (by simp) (More.un h) 0, box_new (by simp) (More.un h) 1, fun j => box_free (by simp) (More.un h) j, box_new (by simp) h 0, box_new (by simp) h 1, box_new (by simp) h 2, fun j => box_free (by simp) h j⟩
  go_enter Try.func86, Try.ntmps86
  go_wp2_with (first | (go_at_call 109; (with_reducible refine (impl_areBigZ x y s t (.slice pa pn pc) (.slice qa qn qc) _ SP.out SQ.out (Ty.at_more HP.out mC) (Ty.at_more HQ.out mC) LP.out LQ.out).mono ?_); rintro e w1 ⟨rfl, hb1⟩; have HX1 : More (((w.alloc (.cells #[.bool s, .slice pa pn pc] 30)).alloc (.cells #[.bool t, .slice qa qn qc] 30)).alloc (.cells #[.bool false, .slice none 0 0, .slice none 0 0] 32)) w1 := mC; have HB1 := HB _ HX1; have hz1 := More.size HX1; (try simp at hz1); have hb1 := hb1))
  go_region_held3 (fun w' => Turns [w.heap.size + 1 + 1] (((w.alloc (.cells #[.bool s, .slice pa pn pc] 30)).alloc (.cells #[.bool t, .slice qa qn qc] 30)).alloc (.cells #[.bool false, .slice none 0 0, .slice none 0 0] 32)) w') (first | exact tC | exact mC2) (first | (go_at_call 54; (with_reducible refine (impl_bigMake _ (.slice pa pn pc) x.natAbs _ (Ty.at_more HP.out mC)).mono ?_); rintro e w2 ⟨rfl, hb2⟩; rw [EZ.out]; have HX2 : More (((w.alloc (.cells #[.bool s, .slice pa pn pc] 30)).alloc (.cells #[.bool t, .slice qa qn qc] 30)).alloc (.cells #[.bool false, .slice none 0 0, .slice none 0 0] 32)) w2 := mC; have HB2 := HB _ HX2; have hz2 := More.size HX2; (try simp at hz2); have hb2 := hb2) | (go_at_call 53; (with_reducible refine (impl_ratMakeZ Z _ (.slice pa pn pc) (.slice qa qn qc) y.natAbs _ rfl HD0.out (by rw [EA.out]; exact Ty.at_more HP.out mC) (Ty.at_more HQ.out mC) (by rw [EA.out]; exact Nat.le_trans LP.out (by decide)) (Nat.le_trans LQ.out (by decide))).mono ?_); rintro e w3 ⟨x3, y3, rfl, hb3, f3⟩; obtain ⟨r3a, r3n, r3c, r3d, r3m, r3e, rfl, rfl⟩ := f3.at.sh; have F3 : Hid (RatFr (((w.alloc (.cells #[.bool s, .slice pa pn pc] 30)).alloc (.cells #[.bool t, .slice qa qn qc] 30)).alloc (.cells #[.bool false, .slice none 0 0, .slice none 0 0] 32)).heap.size w3 (frMk Z y.natAbs) _ _) := Lib.hid (RatFr.mono f3 (More.size mC)); clear f3; have HX3 : More (((w.alloc (.cells #[.bool s, .slice pa pn pc] 30)).alloc (.cells #[.bool t, .slice qa qn qc] 30)).alloc (.cells #[.bool false, .slice none 0 0, .slice none 0 0] 32)) w3 := mC; have HB3 := HB _ HX3; have hz3 := More.size HX3; (try simp at hz3); have hb3 := hb3))
  all_goals
    go_wp2_with fail
    refine bodyPost_ret (v := .agg #[.bool (decide ((frMk Z y.natAbs).1 < 0)), .slice r3a r3n r3c, .slice r3d r3m r3e]) ?_ rfl ?_
    · simp [results, Try.results86, go_sem, *]
    · exact ⟨_, _, rfl, mC2, (F3.out.turns (bs := [w.heap.size + 1 + 1]) tC (by simp)).mono (by simp; try omega)⟩
set_option maxRecDepth 8000 in
set_option maxHeartbeats 6400000 in
theorem impl_RatOf (x y : Int) (w : World) (hx : In64 x) (hy : In64 y) :
    Calls Try.prog 51 #[.int .i64 x, .int .i64 y] w fun e w' => ∃ u v, e = .returned (.agg #[.bool (decide ((frQ x y).1 < 0)), u, v]) ∧ More w w' ∧ RatFr w.heap.size w' (frQ x y) u v := by
  have HX0 := Lib.hid hx; have HY0 := Lib.hid hy; clear hx hy
  have HX : More (w.alloc (.cells #[.bool false, .slice none 0 0, .slice none 0 0] 32)) (w.alloc (.cells #[.bool false, .slice none 0 0, .slice none 0 0] 32)) := More.refl _
  have HB : ∀ w', More (w.alloc (.cells #[.bool false, .slice none 0 0, .slice none 0 0] 32)) w' → w'.cell? ⟨w.heap.size, 0, none⟩ = some (.bool false) ∧ w'.cell? ⟨w.heap.size, 1, none⟩ = some (.slice none 0 0) ∧ w'.cell? ⟨w.heap.size, 2, none⟩ = some (.slice none 0 0) ∧ (∀ j, w'.frozen? ⟨w.heap.size, j, none⟩ = false) := fun w' h => ⟨box_new (by simp) h 0, box_new (by simp) h 1, box_new (by simp) h 2, fun j => box_free (by simp) h j⟩
  go_enter Try.func51, Try.ntmps51
  go_wp2_with (first | (go_at_call 57; (with_reducible refine (impl_bigOf x _ HX0.out).mono ?_); rintro e w1 ⟨u1, rfl, hb1, g1⟩; obtain ⟨x1a, x1n, x1c, rfl⟩ := sh1 g1; have G1 := Lib.hid g1; clear g1; have HX1 : More (w.alloc (.cells #[.bool false, .slice none 0 0, .slice none 0 0] 32)) w1 := mC; have HB1 := HB _ HX1; have hz1 := More.size HX1; (try simp at hz1); have hb1 := hb1) | (go_at_call 57; (with_reducible refine (impl_bigOf y _ HY0.out).mono ?_); rintro e w2 ⟨u2, rfl, hb2, g2⟩; obtain ⟨x2a, x2n, x2c, rfl⟩ := sh1 g2; have G2 := Lib.hid g2; clear g2; have HX2 : More (w.alloc (.cells #[.bool false, .slice none 0 0, .slice none 0 0] 32)) w2 := mC; have HB2 := HB _ HX2; have hz2 := More.size HX2; (try simp at hz2); have hb2 := hb2) | (go_at_call 86; (with_reducible refine (impl_RatMakeZ x y _ _ (.slice x1a x1n x1c) (.slice x2a x2n x2c) _ rfl rfl (Ty.at_more G1.out mC) (Ty.at_more G2.out mC) (Nat.le_trans (limbs_int HX0.out) (by decide)) (Nat.le_trans (limbs_int HY0.out) (by decide))).mono ?_); rintro e w3 ⟨x3, y3, rfl, hb3, f3⟩; obtain ⟨r3a, r3n, r3c, r3d, r3m, r3e, rfl, rfl⟩ := f3.at.sh; have F3 : Hid (RatFr (w.alloc (.cells #[.bool false, .slice none 0 0, .slice none 0 0] 32)).heap.size w3 (frQ x y) _ _) := Lib.hid (RatFr.mono f3 (More.size mC)); clear f3; have HX3 : More (w.alloc (.cells #[.bool false, .slice none 0 0, .slice none 0 0] 32)) w3 := mC; have HB3 := HB _ HX3; have hz3 := More.size HX3; (try simp at hz3); have hb3 := hb3))
  go_wp2_with fail
  refine bodyPost_ret (v := .agg #[.bool (decide ((frQ x y).1 < 0)), .slice r3a r3n r3c, .slice r3d r3m r3e]) ?_ rfl ?_
  · simp [results, Try.results51, go_sem, *]
  · exact ⟨_, _, rfl, mC2, (F3.out.turns (bs := [w.heap.size]) tC (by simp)).mono (by simp; try omega)⟩
end Go.Proofs.Ytiapendgjapgmaa
