/- The program's digit of a quotient: guessed by floats, then by halving. -/
import Derived.Test.YtnbefpfijaimjaaGreatDoorRows
import Derived.Test.YtnbefpfijaimjaaGreatDoorNatD
import Derived.Test.YtnbefpfijaimjaaGreatDoorApp
import Derived.Test.YtnbefpfijaimjaaGreatDoorGFlo
import Derived.Deep.RegionHeld3
import Derived.Deep.QuietTactic
import Derived.BigQuiet
import Derived.IntWalk
namespace Go.Proofs.YtnbefpfijaimjaaGreatDoor
open Go.RowKit
theorem dig_TD {a b m : Nat} (hm : (limbs b).length = m + 2) (hba : b ≤ a) (hab : a < b * 1000000000) {A2 A1 A0 B1 B0 : Nat} (e2 : (limbs a).getD (m + 2) 0 = A2) (e1 : (limbs a).getD (m + 1) 0 = A1) (e0 : (limbs a).getD m 0 = A0) (f1 : (limbs b).getD (m + 1) 0 = B1) (f0 : (limbs b).getD m 0 = B0)
    {T D : Nat} (hT : T = A2 * 1000000000 * 1000000000 + A1 * 1000000000 + A0) (hD : D = B1 * 1000000000 + B0) :
    0 < B1 ∧ D ≤ T ∧ T < (a / b + 1) * (D + 1) ∧ a / b * D ≤ T := by
  have hb0 : 0 < b := by omega
  have hG := bp_pos m
  have hla : (limbs a).length ≤ m + 3 := by
    rw [limbs_len_le, bp_succ]
    have := limbs_lt b
    rw [hm] at this
    omega
  have ga := val_take_all (limbs a) hla
  rw [val_take_succ, val_take_succ, val_take_succ, limbs_val, e2, e1, e0, show bp (m + 2) = 1000000000 * bp (m + 1) from rfl, bp_succ m] at ga
  have gb := val_take_all (limbs b) (Nat.le_of_eq hm)
  rw [val_take_succ, val_take_succ, limbs_val, f1, f0, bp_succ] at gb
  have la := limbs_take_lt a m
  have la0 := limbs_take_nonneg a m
  have lb := limbs_take_lt b m
  have lb0 := limbs_take_nonneg b m
  have hbg := limbs_ge (n := b) (by omega)
  rw [hm, show m + 2 - 1 = m + 1 from rfl, bp_succ] at hbg
  have B0l : (B0 : Int) < 1000000000 := by have := limbs_get b m; rw [f0] at this; exact this.2
  generalize val ((limbs a).take m) = LA at *
  generalize val ((limbs b).take m) = LB at *
  generalize bp m = G at *
  have hA : (a : Int) = LA + G * (T : Int) := by
    rw [hT, ← ga]
    show _ = LA + G * (((A2 : Int) * 1000000000) * 1000000000 + (A1 : Int) * 1000000000 + (A0 : Int))
    clear ga gb hbg hba hab B0l hla
    generalize (1000000000 : Int) = BBB
    rw [Int.mul_add, Int.mul_add]
    ac_rfl
  have hB : (b : Int) = LB + G * (D : Int) := by
    rw [hD, ← gb]
    show _ = LB + G * ((B1 : Int) * 1000000000 + (B0 : Int))
    clear ga gb hbg hba hab B0l hla
    generalize (1000000000 : Int) = BBB
    rw [Int.mul_add]
    ac_rfl
  have q1 : a / b * b ≤ a := Nat.div_mul_le_self _ _
  have q2 : a < (a / b + 1) * b := by have := Nat.lt_mul_div_succ a hb0; rw [Nat.mul_comm]; exact this
  generalize a / b = q at *
  have key : ∀ x y : Int, G * x < G * (y + 1) → x ≤ y := fun x y h => by
    have := Int.lt_of_mul_lt_mul_left h (Int.le_of_lt hG)
    omega
  refine ⟨?_, ?_, ?_, ?_⟩
  · apply Nat.pos_of_ne_zero
    intro h0
    rw [h0] at gb
    have z : G * (B0 : Int) ≤ G * 999999999 := Int.mul_le_mul_of_nonneg_left (by omega) (Int.le_of_lt hG)
    simp at gb
    omega
  · have := key D T (by rw [Int.mul_add, Int.mul_one]; omega)
    omega
  · have h1 : (a : Int) < ((q : Int) + 1) * b := by
      have : ((a : Nat) : Int) < (((q + 1) * b : Nat) : Int) := by omega
      simpa using this
    have h2 : ((q : Int) + 1) * b ≤ ((q : Int) + 1) * (G * ((D : Int) + 1)) := Int.mul_le_mul_of_nonneg_left (by rw [Int.mul_add, Int.mul_one]; omega) (by omega)
    have h3 : G * (T : Int) < G * (((q : Int) + 1) * ((D : Int) + 1)) := by
      rw [Int.mul_left_comm] at h2
      omega
    have h4 := Int.lt_of_mul_lt_mul_left h3 (Int.le_of_lt hG)
    have h5 : ((T : Nat) : Int) < (((q + 1) * (D + 1) : Nat) : Int) := by simpa using h4
    omega
  · have h1 : (q : Int) * b ≤ a := by
      have : (((q * b : Nat)) : Int) ≤ a := by omega
      simpa using this
    have h2 : (q : Int) * (G * (D : Int)) ≤ (q : Int) * b := Int.mul_le_mul_of_nonneg_left (by omega) (by omega)
    rw [Int.mul_left_comm] at h2
    have := key ((q : Int) * D) T (by rw [Int.mul_add, Int.mul_one]; omega)
    have h5 : (((q * D : Nat)) : Int) ≤ T := by simpa using this
    omega
set_option maxRecDepth 60000 in
set_option maxHeartbeats 12800000 in
theorem impl_digit (v v' : Value) (a b : Nat) (w : World) (hv : tInts.at w [v] (limbs a)) (hv' : tInts.at w [v'] (limbs b)) (hl : (limbs a).length ≤ 4096) (hm : (limbs b).length ≤ 4096) (h2 : 2 ≤ (limbs b).length) (hba : b ≤ a) (hab : a < b * 1000000000) :
    Calls Tryz.prog 157 #[v, v'] w fun e w' => e = .returned (.int .i64 ((a / b : Nat) : Int)) ∧ More w w' := by
  obtain ⟨ao, cap, rfl⟩ := sl_len hv
  obtain ⟨ao', cap', rfl⟩ := sl_len hv'
  have HV := Lib.hid hv; clear hv
  have HV' := Lib.hid hv'; clear hv'
  have hb0 : 0 < b := by
    apply Nat.pos_of_ne_zero
    rintro rfl
    rw [limbs_zero] at h2
    simp at h2
  obtain ⟨m, hmm⟩ : ∃ m, (limbs b).length = m + 2 := ⟨(limbs b).length - 2, by omega⟩
  have gg : ∀ (n i : Nat), ∃ z : Nat, (limbs n).getD i 0 = (z : Int) ∧ z < 1000000000 := fun n i => ⟨((limbs n).getD i 0).toNat, by have := limbs_get n i; omega, by have := limbs_get n i; omega⟩
  obtain ⟨A2, e2, a2⟩ := gg a (m + 2)
  obtain ⟨A1, e1, a1⟩ := gg a (m + 1)
  obtain ⟨A0, e0, a0⟩ := gg a m
  obtain ⟨B1, f1, b1⟩ := gg b (m + 1)
  obtain ⟨B0, f0, b0⟩ := gg b m
  obtain ⟨T, hT⟩ : ∃ T, T = A2 * 1000000000 * 1000000000 + A1 * 1000000000 + A0 := ⟨_, rfl⟩
  obtain ⟨D, hD⟩ : ∃ D, D = B1 * 1000000000 + B0 := ⟨_, rfl⟩
  obtain ⟨d0, d1, d2, d3⟩ := dig_TD hmm hba hab e2 e1 e0 f1 f0 hT hD
  have hqB : a / b < 1000000000 := by rw [Nat.div_lt_iff_lt_mul hb0, Nat.mul_comm]; exact hab
  obtain ⟨y2, z2, y1, s1, t, v1, d, r, g, x1, x2, x3, x4, x5, x6, x7, x8, x9, g1, g2⟩ := guess_ok a2 a1 a0 b1 b0 d0 hT hD d1 d2 d3 hqB
  have E2 := Lib.hid e2; have E1 := Lib.hid e1; have E0 := Lib.hid e0; have F1 := Lib.hid f1; have F0 := Lib.hid f0
  have hla : (limbs a).length ≤ m + 3 := by
    rw [limbs_len_le, bp_succ]
    have := limbs_lt b
    rw [hmm] at this
    omega
  have HL := Lib.hid hl; have HM := Lib.hid hm
  obtain ⟨n, hn⟩ : ∃ n, n = (limbs a).length := ⟨_, rfl⟩
  obtain ⟨n', hn'⟩ : ∃ n', n' = (limbs b).length := ⟨_, rfl⟩
  obtain ⟨n1, hn1⟩ : ∃ n1, n1 = m + 1 := ⟨_, rfl⟩
  rw [← hn] at HV hl hla ⊢
  rw [← hn'] at HV' hm hmm h2 ⊢
  rw [← hmm] at E2
  rw [← hn1] at E1 F1
  have hle : (n : Int) ≤ (n' : Int) + 1 := by omega
  have hw0 : IntKind.i64.wrap ((n' : Int) + 1) = (n' : Int) + 1 := IntWalk.i64_in _ (by omega)
  have hw1 : IntKind.i64.wrap ((n' : Int) - 1) = (n1 : Int) := by rw [show (n' : Int) - 1 = (n1 : Int) by omega]; exact IntWalk.i64_in _ (by omega)
  have hw2 : IntKind.i64.wrap ((n' : Int) - 2) = (m : Int) := by rw [show (n' : Int) - 2 = (m : Int) by omega]; exact IntWalk.i64_in _ (by omega)
  have i0 : (0 : Int) ≤ (n1 : Int) := by omega
  have i1 : (n1 : Int) < (n' : Int) := by omega
  have i2 : (0 : Int) ≤ (m : Int) := by omega
  have i3 : (m : Int) < (n' : Int) := by omega
  obtain ⟨p, off, u, rfl, hblt, hx, -, c1⟩ := int_el HV'.out (k := n1) (by rw [← hn']; omega)
  obtain ⟨p', off', u', hadr, -, hx', -, c0⟩ := int_el HV'.out (k := m) (by rw [← hn']; omega)
  simp only [Option.some.injEq, Addr.mk.injEq] at hadr
  obtain ⟨rfl, rfl, -⟩ := hadr
  obtain rfl : u = (B1 : Int) := by have h := F1.out; rw [List.getD_eq_getElem?_getD, hx] at h; exact h
  obtain rfl : u' = (B0 : Int) := by have h := F0.out; rw [List.getD_eq_getElem?_getD, hx'] at h; exact h
  clear hx hx' gg e2 e1 e0 f1 f0 hT hD d0 d1 d2 d3 hn hn' hn1 hmm hla h2
  have HQ := Lib.hid hqB
  obtain ⟨q, hq⟩ : ∃ q, a / b = q := ⟨_, rfl⟩
  rw [hq] at hqB g1 g2
  have HQQ := Lib.hid hq; clear hq
  have FM : ∀ (w : World) (x y r : Nat), floatBits .mul .f64 x y = some r → (binOp .mul 165 (.float .f64 x) (.float .f64 y)).run Tryz.prog w = .ok (.float .f64 r) w := fun w x y r h => run_float_arith w .mul _ .f64 x y r h
  have X1 : ∀ w : World, (binOp .mul 165 (.float .f64 (floatOfInt .f64 (A2 : Int))) (.float .f64 4741671816366391296)).run Tryz.prog w = .ok (.float .f64 y2) w := fun w => run_float_arith w .mul _ .f64 _ _ _ x1
  have X2 : ∀ w : World, (binOp .mul 165 (.float .f64 y2) (.float .f64 4741671816366391296)).run Tryz.prog w = .ok (.float .f64 z2) w := fun w => run_float_arith w .mul _ .f64 _ _ _ x2
  have X3 : ∀ w : World, (binOp .mul 165 (.float .f64 (floatOfInt .f64 (A1 : Int))) (.float .f64 4741671816366391296)).run Tryz.prog w = .ok (.float .f64 y1) w := fun w => run_float_arith w .mul _ .f64 _ _ _ x3
  have X4 : ∀ w : World, (binOp .add 165 (.float .f64 z2) (.float .f64 y1)).run Tryz.prog w = .ok (.float .f64 s1) w := fun w => run_float_arith w .add _ .f64 _ _ _ x4
  have X5 : ∀ w : World, (binOp .add 165 (.float .f64 s1) (.float .f64 (floatOfInt .f64 (A0 : Int)))).run Tryz.prog w = .ok (.float .f64 t) w := fun w => run_float_arith w .add _ .f64 _ _ _ x5
  have X6 : ∀ w : World, (binOp .mul 165 (.float .f64 (floatOfInt .f64 (B1 : Int))) (.float .f64 4741671816366391296)).run Tryz.prog w = .ok (.float .f64 v1) w := fun w => run_float_arith w .mul _ .f64 _ _ _ x6
  have X7 : ∀ w : World, (binOp .add 165 (.float .f64 v1) (.float .f64 (floatOfInt .f64 (B0 : Int)))).run Tryz.prog w = .ok (.float .f64 d) w := fun w => run_float_arith w .add _ .f64 _ _ _ x7
  have X8 : ∀ w : World, (binOp .quo 165 (.float .f64 t) (.float .f64 d)).run Tryz.prog w = .ok (.float .f64 r) w := fun w => run_float_arith w .quo _ .f64 _ _ _ x8
  have X9 : ∀ w : World, (convert 165 3 (.float .f64 r)).run Tryz.prog w = .ok (.int .i64 (g : Int)) w := fun w => run_convert_float_int w _ _ .f64 .i64 r g (by rw [Tryz.underlying165]; rfl) Tryz.underlying3 x9
  have hgw : (g : Int) ≤ 1000000002 := by omega
  obtain ⟨lo, hlo⟩ : ∃ lo : Int, lo = (g : Int) - 2000 := ⟨_, rfl⟩
  obtain ⟨up, hup⟩ : ∃ up : Int, up = (g : Int) + 2000 := ⟨_, rfl⟩
  have hwa : IntKind.i64.wrap ((g : Int) - 2000) = lo := by rw [hlo]; exact IntWalk.i64_in _ (by omega)
  have hwb : IntKind.i64.wrap ((g : Int) + 2000) = up := by rw [hup]; exact IntWalk.i64_in _ (by omega)
  have HLO := Lib.hid hlo; have HUP := Lib.hid hup; clear hlo hup
  clear FM
  have C1 : ∀ w', More w w' → w'.cell? ⟨p, off + n1, none⟩ = some (.int .i64 (B1 : Int)) := fun w' h => box_keep h hblt c1
  have C0 : ∀ w', More w w' → w'.cell? ⟨p, off + m, none⟩ = some (.int .i64 (B0 : Int)) := fun w' h => box_keep h hblt c0
  clear c1 c0
  go_enter Tryz.func157, Tryz.ntmps157
  go_wp2_with (first | (go_at_call 146; (with_reducible refine (impl_limb_ _ (limbs a) n' (A2 : Int) _ (Ty.at_more HV.out mC) E2.out).mono ?_); rintro e w3 ⟨rfl, hb3⟩) | (go_at_call 146; (with_reducible refine (impl_limb_ _ (limbs a) n1 (A1 : Int) _ (Ty.at_more HV.out mC) E1.out).mono ?_); rintro e w4 ⟨rfl, hb4⟩) | (go_at_call 146; (with_reducible refine (impl_limb_ _ (limbs a) m (A0 : Int) _ (Ty.at_more HV.out mC) E0.out).mono ?_); rintro e w5 ⟨rfl, hb5⟩))
  go_region_held3 (fun w' => More w w') (first | exact More.refl _ | exact mC) (fail)
  go_wp2_with fail
  all_goals
    go_loopw [5, 6] (fun lo hi wr => ∃ l h : Int, lo = .int .i64 l ∧ hi = .int .i64 h ∧ (0 ≤ l ∧ h < 1000000000) ∧ More w wr ∧ Hid (DigInv a b l h)) (fun lo hi _ => (intOf hi - intOf lo).toNat)
    case atStart => exact ⟨_, _, rfl, rfl, by have := HLO.out; have := HUP.out; omega, mC, Lib.hid ⟨by omega, by have := HLO.out; rw [HQQ.out]; omega, by have := HUP.out; rw [HQQ.out]; omega, by omega⟩⟩
    case round =>
      obtain ⟨l, h, rfl, rfl, hlh, hmr, HI⟩ := hrel
      by_cases hlt : l < h
      · obtain ⟨m, hm'⟩ : ∃ m : Nat, (m : Int) = (l + h + 1) / 2 := ⟨((l + h + 1) / 2).toNat, by omega⟩
        have hml : l < (m : Int) := by omega
        have hmh : (m : Int) ≤ h := by omega
        have hw1 : IntKind.i64.wrap (l + h) = l + h := IntWalk.i64_in _ (by omega)
        have hw2 : IntKind.i64.wrap (l + h + 1) = l + h + 1 := IntWalk.i64_in _ (by omega)
        have hmt : (l + h + 1).tdiv 2 = (m : Int) := by rw [Int.tdiv_eq_ediv_of_nonneg (by omega)]; exact hm'.symm
        have hme : (l + h + 1) / 2 = (m : Int) := hm'.symm
        clear hm'
        have hM : m < 1000000000 := by omega
        have HLm : Hid ((limbs m).length ≤ 4096) := Lib.hid (Nat.le_trans (limbs_len_le (k := 1).2 (by show (m : Int) < bp 1; rw [bp_succ]; show (m : Int) < 1000000000 * 1; omega)) (by decide))
        have HLbm : Hid ((limbs (b * m)).length ≤ 1048576) := Lib.hid (by have h1 := limbs_len_mul b m; have h2 := HM.out; have h3 := HLm.out; omega)
        have HLa : Hid ((limbs a).length ≤ 1048576) := Lib.hid (by have := HL.out; omega)
        by_cases hle : b * m ≤ a
        · have hc0 : cmpI ((b * m : Nat) : Int) (a : Int) ≤ 0 := by unfold cmpI; split <;> (try split) <;> omega
          obtain ⟨c, ec⟩ : ∃ c, cmpI ((b * m : Nat) : Int) (a : Int) = c := ⟨_, rfl⟩
          have EC := Lib.hid ec
          rw [ec] at hc0; clear ec
          go_wp2_with (first | (go_at_call 148; refine (impl_natOf m _ (by omega)).mono ?_; rintro e w1 ⟨u1, rfl, hb1, g1⟩; have G1 := Lib.hid g1; clear g1) | (go_at_call 108; refine (impl_natMul _ _ b m _ (Ty.at_more HV'.out mC) (Ty.at_more G1.out mC) HM.out HLm.out).mono ?_; rintro e w2 ⟨u2, rfl, hb2, g2⟩; have G2 := Lib.hid g2; clear g2) | (go_at_call 142; refine (impl_natCmp _ _ (b * m) a _ (Ty.at_more G2.out mC) (Ty.at_more HV.out mC) HLbm.out HLa.out).mono ?_; rintro e w3 ⟨rfl, hb3⟩; rw [EC.out]))
          go_roundw
          case rel => exact ⟨(m : Int), h, rfl, rfl, by omega, mC, Lib.hid (HI.out.take hb0 (by omega) (by simpa using hle))⟩
          case measure => simp [intOf]; omega
        · have hc0 : ¬ cmpI ((b * m : Nat) : Int) (a : Int) ≤ 0 := by unfold cmpI; split <;> (try split) <;> omega
          obtain ⟨c, ec⟩ : ∃ c, cmpI ((b * m : Nat) : Int) (a : Int) = c := ⟨_, rfl⟩
          have EC := Lib.hid ec
          rw [ec] at hc0; clear ec
          have hw3 : IntKind.i64.wrap ((m : Int) - 1) = (m : Int) - 1 := IntWalk.i64_in _ (by omega)
          go_wp2_with (first | (go_at_call 148; refine (impl_natOf m _ (by omega)).mono ?_; rintro e w1 ⟨u1, rfl, hb1, g1⟩; have G1 := Lib.hid g1; clear g1) | (go_at_call 108; refine (impl_natMul _ _ b m _ (Ty.at_more HV'.out mC) (Ty.at_more G1.out mC) HM.out HLm.out).mono ?_; rintro e w2 ⟨u2, rfl, hb2, g2⟩; have G2 := Lib.hid g2; clear g2) | (go_at_call 142; refine (impl_natCmp _ _ (b * m) a _ (Ty.at_more G2.out mC) (Ty.at_more HV.out mC) HLbm.out HLa.out).mono ?_; rintro e w3 ⟨rfl, hb3⟩; rw [EC.out]))
          go_roundw
          case rel => exact ⟨l, (m : Int) - 1, rfl, by go_num, by omega, mC, Lib.hid (HI.out.drop hb0 (by omega) hmh (by simpa using Nat.lt_of_not_le hle))⟩
          case measure => simp [intOf]; omega
      · go_wp2_with fail
        go_ret
        exact ⟨ret_int (HI.out.done (by omega)), hmr⟩
end Go.Proofs.YtnbefpfijaimjaaGreatDoor
