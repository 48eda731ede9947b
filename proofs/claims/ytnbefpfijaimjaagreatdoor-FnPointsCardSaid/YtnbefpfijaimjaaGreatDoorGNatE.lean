/- Several texts laid together; each has its own word at its head. -/
import Derived.Test.YtnbefpfijaimjaaGreatDoorRows
import Derived.Test.YtnbefpfijaimjaaGreatDoorGNatA
import Derived.Test.YtnbefpfijaimjaaGreatDoorApp
import Derived.Test.YtnbefpfijaimjaaGreatDoorGFlo
import Derived.Deep.RegionHeld3
import Derived.Deep.QuietTactic
import Derived.BigQuiet
import Derived.IntWalk
import Derived.Test.YtnbefpfijaimjaaGreatDoorGVec
import Derived.Test.YtnbefpfijaimjaaGreatDoorGNum
/- The program's digit of a quotient: guessed by floats, then by halving. -/
namespace Go.Proofs.YtnbefpfijaimjaaGreatDoor
open Go.RowKit
theorem dig_TD {a b m : Nat} (hm : (limbs b).length = m + 2) (hba : b ≤ a) (hab : a < b * 1000000000) {A2 A1 A0 B1 B0 : Nat} (e2 : (limbs a).getD (m + 2) 0 = A2) (e1 : (limbs a).getD (m + 1) 0 = A1) (e0 : (limbs a).getD m 0 = A0) (f1 : (limbs b).getD (m + 1) 0 = B1) (f0 : (limbs b).getD m 0 = B0)
    {T D : Nat} (hT : T = A2 * 1000000000 * 1000000000 + A1 * 1000000000 + A0) (hD : D = B1 * 1000000000 + B0) :
    0 < B1 ∧ D ≤ T ∧ T < (a / b + 1) * (D + 1) ∧ a / b * D ≤ T := by
  have hb0 : 0 < b := by omega
  have hG := bp_pos m
  have hla : (limbs a).length ≤ m + 3 := by
    rw [limbs_len_le, bp_succ]
    have := limbs_lt b
    rw [hm] at this
    omega
  have ga := val_take_all (limbs a) hla
  rw [val_take_succ, val_take_succ, val_take_succ, limbs_val, e2, e1, e0, show bp (m + 2) = 1000000000 * bp (m + 1) from rfl, bp_succ m] at ga
  have gb := val_take_all (limbs b) (Nat.le_of_eq hm)
  rw [val_take_succ, val_take_succ, limbs_val, f1, f0, bp_succ] at gb
  have la := limbs_take_lt a m
  have la0 := limbs_take_nonneg a m
  have lb := limbs_take_lt b m
  have lb0 := limbs_take_nonneg b m
  have hbg := limbs_ge (n := b) (by omega)
  rw [hm, show m + 2 - 1 = m + 1 from rfl, bp_succ] at hbg
  have B0l : (B0 : Int) < 1000000000 := by have := limbs_get b m; rw [f0] at this; exact this.2
  generalize val ((limbs a).take m) = LA at *
  generalize val ((limbs b).take m) = LB at *
  generalize bp m = G at *
  have hA : (a : Int) = LA + G * (T : Int) := by
    rw [hT, ← ga]
    show _ = LA + G * (((A2 : Int) * 1000000000) * 1000000000 + (A1 : Int) * 1000000000 + (A0 : Int))
    clear ga gb hbg hba hab B0l hla
    generalize (1000000000 : Int) = BBB
    rw [Int.mul_add, Int.mul_add]
    ac_rfl
  have hB : (b : Int) = LB + G * (D : Int) := by
    rw [hD, ← gb]
    show _ = LB + G * ((B1 : Int) * 1000000000 + (B0 : Int))
    clear ga gb hbg hba hab B0l hla
    generalize (1000000000 : Int) = BBB
    rw [Int.mul_add]
    ac_rfl
  have q1 : a / b * b ≤ a := Nat.div_mul_le_self _ _
  have q2 : a < (a / b + 1) * b := by have := Nat.lt_mul_div_succ a hb0; rw [Nat.mul_comm]; exact this
  generalize a / b = q at *
  have key : ∀ x y : Int, G * x < G * (y + 1) → x ≤ y := fun x y h => by
    have := Int.lt_of_mul_lt_mul_left h (Int.le_of_lt hG)
    omega
  refine ⟨?_, ?_, ?_, ?_⟩
  · apply Nat.pos_of_ne_zero
    intro h0
    rw [h0] at gb
    have z : G * (B0 : Int) ≤ G * 999999999 := Int.mul_le_mul_of_nonneg_left (by omega) (Int.le_of_lt hG)
    simp at gb
    omega
  · have := key D T (by rw [Int.mul_add, Int.mul_one]; omega)
    omega
  · have h1 : (a : Int) < ((q : Int) + 1) * b := by
      have : ((a : Nat) : Int) < (((q + 1) * b : Nat) : Int) := by omega
      simpa using this
    have h2 : ((q : Int) + 1) * b ≤ ((q : Int) + 1) * (G * ((D : Int) + 1)) := Int.mul_le_mul_of_nonneg_left (by rw [Int.mul_add, Int.mul_one]; omega) (by omega)
    have h3 : G * (T : Int) < G * (((q : Int) + 1) * ((D : Int) + 1)) := by
      rw [Int.mul_left_comm] at h2
      omega
    have h4 := Int.lt_of_mul_lt_mul_left h3 (Int.le_of_lt hG)
    have h5 : ((T : Nat) : Int) < (((q + 1) * (D + 1) : Nat) : Int) := by simpa using h4
    omega
  · have h1 : (q : Int) * b ≤ a := by
      have : (((q * b : Nat)) : Int) ≤ a := by omega
      simpa using this
    have h2 : (q : Int) * (G * (D : Int)) ≤ (q : Int) * b := Int.mul_le_mul_of_nonneg_left (by omega) (by omega)
    rw [Int.mul_left_comm] at h2
    have := key ((q : Int) * D) T (by rw [Int.mul_add, Int.mul_one]; omega)
    have h5 : (((q * D : Nat)) : Int) ≤ T := by simpa using this
    omega
set_option maxRecDepth 60000 in
set_option maxHeartbeats 12800000 in
theorem impl_digit (v v' : Value) (a b : Nat) (w : World) (hv : tInts.at w [v] (limbs a)) (hv' : tInts.at w [v'] (limbs b)) (hl : (limbs a).length ≤ 4096) (hm : (limbs b).length ≤ 4096) (h2 : 2 ≤ (limbs b).length) (hba : b ≤ a) (hab : a < b * 1000000000) :
    Calls Tryz.prog 157 #[v, v'] w fun e w' => e = .returned (.int .i64 ((a / b : Nat) : Int)) ∧ More w w' := by
  obtain ⟨ao, cap, rfl⟩ := sl_len hv
  obtain ⟨ao', cap', rfl⟩ := sl_len hv'
  have HV := Lib.hid hv; clear hv
  have HV' := Lib.hid hv'; clear hv'
  have hb0 : 0 < b := by
    apply Nat.pos_of_ne_zero
    rintro rfl
    rw [limbs_zero] at h2
    simp at h2
  obtain ⟨m, hmm⟩ : ∃ m, (limbs b).length = m + 2 := ⟨(limbs b).length - 2, by omega⟩
  have gg : ∀ (n i : Nat), ∃ z : Nat, (limbs n).getD i 0 = (z : Int) ∧ z < 1000000000 := fun n i => ⟨((limbs n).getD i 0).toNat, by have := limbs_get n i; omega, by have := limbs_get n i; omega⟩
  obtain ⟨A2, e2, a2⟩ := gg a (m + 2)
  obtain ⟨A1, e1, a1⟩ := gg a (m + 1)
  obtain ⟨A0, e0, a0⟩ := gg a m
  obtain ⟨B1, f1, b1⟩ := gg b (m + 1)
  obtain ⟨B0, f0, b0⟩ := gg b m
  obtain ⟨T, hT⟩ : ∃ T, T = A2 * 1000000000 * 1000000000 + A1 * 1000000000 + A0 := ⟨_, rfl⟩
  obtain ⟨D, hD⟩ : ∃ D, D = B1 * 1000000000 + B0 := ⟨_, rfl⟩
  obtain ⟨d0, d1, d2, d3⟩ := dig_TD hmm hba hab e2 e1 e0 f1 f0 hT hD
  have hqB : a / b < 1000000000 := by rw [Nat.div_lt_iff_lt_mul hb0, Nat.mul_comm]; exact hab
  obtain ⟨y2, z2, y1, s1, t, v1, d, r, g, x1, x2, x3, x4, x5, x6, x7, x8, x9, g1, g2⟩ := guess_ok a2 a1 a0 b1 b0 d0 hT hD d1 d2 d3 hqB
  have E2 := Lib.hid e2; have E1 := Lib.hid e1; have E0 := Lib.hid e0; have F1 := Lib.hid f1; have F0 := Lib.hid f0
  have hla : (limbs a).length ≤ m + 3 := by
    rw [limbs_len_le, bp_succ]
    have := limbs_lt b
    rw [hmm] at this
    omega
  have HL := Lib.hid hl; have HM := Lib.hid hm
  obtain ⟨n, hn⟩ : ∃ n, n = (limbs a).length := ⟨_, rfl⟩
  obtain ⟨n', hn'⟩ : ∃ n', n' = (limbs b).length := ⟨_, rfl⟩
  obtain ⟨n1, hn1⟩ : ∃ n1, n1 = m + 1 := ⟨_, rfl⟩
  rw [← hn] at HV hl hla ⊢
  rw [← hn'] at HV' hm hmm h2 ⊢
  rw [← hmm] at E2
  rw [← hn1] at E1 F1
  have hle : (n : Int) ≤ (n' : Int) + 1 := by omega
  have hw0 : IntKind.i64.wrap ((n' : Int) + 1) = (n' : Int) + 1 := IntWalk.i64_in _ (by omega)
  have hw1 : IntKind.i64.wrap ((n' : Int) - 1) = (n1 : Int) := by rw [show (n' : Int) - 1 = (n1 : Int) by omega]; exact IntWalk.i64_in _ (by omega)
  have hw2 : IntKind.i64.wrap ((n' : Int) - 2) = (m : Int) := by rw [show (n' : Int) - 2 = (m : Int) by omega]; exact IntWalk.i64_in _ (by omega)
  have i0 : (0 : Int) ≤ (n1 : Int) := by omega
  have i1 : (n1 : Int) < (n' : Int) := by omega
  have i2 : (0 : Int) ≤ (m : Int) := by omega
  have i3 : (m : Int) < (n' : Int) := by omega
  obtain ⟨p, off, u, rfl, hblt, hx, -, c1⟩ := int_el HV'.out (k := n1) (by rw [← hn']; omega)
  obtain ⟨p', off', u', hadr, -, hx', -, c0⟩ := int_el HV'.out (k := m) (by rw [← hn']; omega)
  simp only [Option.some.injEq, Addr.mk.injEq] at hadr
  obtain ⟨rfl, rfl, -⟩ := hadr
  obtain rfl : u = (B1 : Int) := by have h := F1.out; rw [List.getD_eq_getElem?_getD, hx] at h; exact h
  obtain rfl : u' = (B0 : Int) := by have h := F0.out; rw [List.getD_eq_getElem?_getD, hx'] at h; exact h
  clear hx hx' gg e2 e1 e0 f1 f0 hT hD d0 d1 d2 d3 hn hn' hn1 hmm hla h2
  have HQ := Lib.hid hqB
  obtain ⟨q, hq⟩ : ∃ q, a / b = q := ⟨_, rfl⟩
  rw [hq] at hqB g1 g2
  have HQQ := Lib.hid hq; clear hq
  have FM : ∀ (w : World) (x y r : Nat), floatBits .mul .f64 x y = some r → (binOp .mul 165 (.float .f64 x) (.float .f64 y)).run Tryz.prog w = .ok (.float .f64 r) w := fun w x y r h => run_float_arith w .mul _ .f64 x y r h
  have X1 : ∀ w : World, (binOp .mul 165 (.float .f64 (floatOfInt .f64 (A2 : Int))) (.float .f64 4741671816366391296)).run Tryz.prog w = .ok (.float .f64 y2) w := fun w => run_float_arith w .mul _ .f64 _ _ _ x1
  have X2 : ∀ w : World, (binOp .mul 165 (.float .f64 y2) (.float .f64 4741671816366391296)).run Tryz.prog w = .ok (.float .f64 z2) w := fun w => run_float_arith w .mul _ .f64 _ _ _ x2
  have X3 : ∀ w : World, (binOp .mul 165 (.float .f64 (floatOfInt .f64 (A1 : Int))) (.float .f64 4741671816366391296)).run Tryz.prog w = .ok (.float .f64 y1) w := fun w => run_float_arith w .mul _ .f64 _ _ _ x3
  have X4 : ∀ w : World, (binOp .add 165 (.float .f64 z2) (.float .f64 y1)).run Tryz.prog w = .ok (.float .f64 s1) w := fun w => run_float_arith w .add _ .f64 _ _ _ x4
  have X5 : ∀ w : World, (binOp .add 165 (.float .f64 s1) (.float .f64 (floatOfInt .f64 (A0 : Int)))).run Tryz.prog w = .ok (.float .f64 t) w := fun w => run_float_arith w .add _ .f64 _ _ _ x5
  have X6 : ∀ w : World, (binOp .mul 165 (.float .f64 (floatOfInt .f64 (B1 : Int))) (.float .f64 4741671816366391296)).run Tryz.prog w = .ok (.float .f64 v1) w := fun w => run_float_arith w .mul _ .f64 _ _ _ x6
  have X7 : ∀ w : World, (binOp .add 165 (.float .f64 v1) (.float .f64 (floatOfInt .f64 (B0 : Int)))).run Tryz.prog w = .ok (.float .f64 d) w := fun w => run_float_arith w .add _ .f64 _ _ _ x7
  have X8 : ∀ w : World, (binOp .quo 165 (.float .f64 t) (.float .f64 d)).run Tryz.prog w = .ok (.float .f64 r) w := fun w => run_float_arith w .quo _ .f64 _ _ _ x8
  have X9 : ∀ w : World, (convert 165 3 (.float .f64 r)).run Tryz.prog w = .ok (.int .i64 (g : Int)) w := fun w => run_convert_float_int w _ _ .f64 .i64 r g (by rw [Tryz.underlying165]; rfl) Tryz.underlying3 x9
  have hgw : (g : Int) ≤ 1000000002 := by omega
  obtain ⟨lo, hlo⟩ : ∃ lo : Int, lo = (g : Int) - 2000 := ⟨_, rfl⟩
  obtain ⟨up, hup⟩ : ∃ up : Int, up = (g : Int) + 2000 := ⟨_, rfl⟩
  have hwa : IntKind.i64.wrap ((g : Int) - 2000) = lo := by rw [hlo]; exact IntWalk.i64_in _ (by omega)
  have hwb : IntKind.i64.wrap ((g : Int) + 2000) = up := by rw [hup]; exact IntWalk.i64_in _ (by omega)
  have HLO := Lib.hid hlo; have HUP := Lib.hid hup; clear hlo hup
  clear FM
  have C1 : ∀ w', More w w' → w'.cell? ⟨p, off + n1, none⟩ = some (.int .i64 (B1 : Int)) := fun w' h => box_keep h hblt c1
  have C0 : ∀ w', More w w' → w'.cell? ⟨p, off + m, none⟩ = some (.int .i64 (B0 : Int)) := fun w' h => box_keep h hblt c0
  clear c1 c0
  go_enter Tryz.func157, Tryz.ntmps157
  go_wp2_with (first | (go_at_call 146; (with_reducible refine (impl_limb_ _ (limbs a) n' (A2 : Int) _ (Ty.at_more HV.out mC) E2.out).mono ?_); rintro e w3 ⟨rfl, hb3⟩) | (go_at_call 146; (with_reducible refine (impl_limb_ _ (limbs a) n1 (A1 : Int) _ (Ty.at_more HV.out mC) E1.out).mono ?_); rintro e w4 ⟨rfl, hb4⟩) | (go_at_call 146; (with_reducible refine (impl_limb_ _ (limbs a) m (A0 : Int) _ (Ty.at_more HV.out mC) E0.out).mono ?_); rintro e w5 ⟨rfl, hb5⟩))
  go_region_held3 (fun w' => More w w') (first | exact More.refl _ | exact mC) (fail)
  go_wp2_with fail
  all_goals
    go_loopw [5, 6] (fun lo hi wr => ∃ l h : Int, lo = .int .i64 l ∧ hi = .int .i64 h ∧ (0 ≤ l ∧ h < 1000000000) ∧ More w wr ∧ Hid (DigInv a b l h)) (fun lo hi _ => (intOf hi - intOf lo).toNat)
    case atStart => exact ⟨_, _, rfl, rfl, by have := HLO.out; have := HUP.out; omega, mC, Lib.hid ⟨by omega, by have := HLO.out; rw [HQQ.out]; omega, by have := HUP.out; rw [HQQ.out]; omega, by omega⟩⟩
    case round =>
      obtain ⟨l, h, rfl, rfl, hlh, hmr, HI⟩ := hrel
      by_cases hlt : l < h
      · obtain ⟨m, hm'⟩ : ∃ m : Nat, (m : Int) = (l + h + 1) / 2 := ⟨((l + h + 1) / 2).toNat, by omega⟩
        have hml : l < (m : Int) := by omega
        have hmh : (m : Int) ≤ h := by omega
        have hw1 : IntKind.i64.wrap (l + h) = l + h := IntWalk.i64_in _ (by omega)
        have hw2 : IntKind.i64.wrap (l + h + 1) = l + h + 1 := IntWalk.i64_in _ (by omega)
        have hmt : (l + h + 1).tdiv 2 = (m : Int) := by rw [Int.tdiv_eq_ediv_of_nonneg (by omega)]; exact hm'.symm
        have hme : (l + h + 1) / 2 = (m : Int) := hm'.symm
        clear hm'
        have hM : m < 1000000000 := by omega
        have HLm : Hid ((limbs m).length ≤ 4096) := Lib.hid (Nat.le_trans (limbs_len_le (k := 1).2 (by show (m : Int) < bp 1; rw [bp_succ]; show (m : Int) < 1000000000 * 1; omega)) (by decide))
        have HLbm : Hid ((limbs (b * m)).length ≤ 1048576) := Lib.hid (by have h1 := limbs_len_mul b m; have h2 := HM.out; have h3 := HLm.out; omega)
        have HLa : Hid ((limbs a).length ≤ 1048576) := Lib.hid (by have := HL.out; omega)
        by_cases hle : b * m ≤ a
        · have hc0 : cmpI ((b * m : Nat) : Int) (a : Int) ≤ 0 := by unfold cmpI; split <;> (try split) <;> omega
          obtain ⟨c, ec⟩ : ∃ c, cmpI ((b * m : Nat) : Int) (a : Int) = c := ⟨_, rfl⟩
          have EC := Lib.hid ec
          rw [ec] at hc0; clear ec
          go_wp2_with (first | (go_at_call 148; refine (impl_natOf m _ (by omega)).mono ?_; rintro e w1 ⟨u1, rfl, hb1, g1⟩; have G1 := Lib.hid g1; clear g1) | (go_at_call 108; refine (impl_natMul _ _ b m _ (Ty.at_more HV'.out mC) (Ty.at_more G1.out mC) HM.out HLm.out).mono ?_; rintro e w2 ⟨u2, rfl, hb2, g2⟩; have G2 := Lib.hid g2; clear g2) | (go_at_call 142; refine (impl_natCmp _ _ (b * m) a _ (Ty.at_more G2.out mC) (Ty.at_more HV.out mC) HLbm.out HLa.out).mono ?_; rintro e w3 ⟨rfl, hb3⟩; rw [EC.out]))
          go_roundw
          case rel => exact ⟨(m : Int), h, rfl, rfl, by omega, mC, Lib.hid (HI.out.take hb0 (by omega) (by simpa using hle))⟩
          case measure => simp [intOf]; omega
        · have hc0 : ¬ cmpI ((b * m : Nat) : Int) (a : Int) ≤ 0 := by unfold cmpI; split <;> (try split) <;> omega
          obtain ⟨c, ec⟩ : ∃ c, cmpI ((b * m : Nat) : Int) (a : Int) = c := ⟨_, rfl⟩
          have EC := Lib.hid ec
          rw [ec] at hc0; clear ec
          have hw3 : IntKind.i64.wrap ((m : Int) - 1) = (m : Int) - 1 := IntWalk.i64_in _ (by omega)
          go_wp2_with (first | (go_at_call 148; refine (impl_natOf m _ (by omega)).mono ?_; rintro e w1 ⟨u1, rfl, hb1, g1⟩; have G1 := Lib.hid g1; clear g1) | (go_at_call 108; refine (impl_natMul _ _ b m _ (Ty.at_more HV'.out mC) (Ty.at_more G1.out mC) HM.out HLm.out).mono ?_; rintro e w2 ⟨u2, rfl, hb2, g2⟩; have G2 := Lib.hid g2; clear g2) | (go_at_call 142; refine (impl_natCmp _ _ (b * m) a _ (Ty.at_more G2.out mC) (Ty.at_more HV.out mC) HLbm.out HLa.out).mono ?_; rintro e w3 ⟨rfl, hb3⟩; rw [EC.out]))
          go_roundw
          case rel => exact ⟨l, (m : Int) - 1, rfl, by go_num, by omega, mC, Lib.hid (HI.out.drop hb0 (by omega) hmh (by simpa using Nat.lt_of_not_le hle))⟩
          case measure => simp [intOf]; omega
      · go_wp2_with fail
        go_ret
        exact ⟨ret_int (HI.out.done (by omega)), hmr⟩
end Go.Proofs.YtnbefpfijaimjaaGreatDoor
/- Natural numbers as limbs: quotient and remainder: the program's and the reference's. -/
namespace Go.Proofs.YtnbefpfijaimjaaGreatDoor
open Go.RowKit
theorem Ty.rd_more {α : Type} {S : Ty α} {p : Nat → Prop} {w w' : World} {cs : List Value} {x : α} (h : S.rd p w cs x) (hb : More w w') : S.rd p w' cs x :=
  S.keep h (fun k hp hl => ⟨hp, hb.block k hl, Nat.lt_of_lt_of_le hl hb.size⟩)
theorem sl_takeP {α : Type} {S : Ty α} {p : Nat → Prop} {w : World} {ao : Option Addr} {n cap m : Nat} {l : List α} (h : (tSlice S).rd p w [.slice ao n cap] l) (hm : m ≤ n) : (tSlice S).rd p w [.slice ao m cap] (l.take m) := by
  obtain ⟨ao', cap', h0, k1, k2, k3, k4⟩ := slRd_at h
  simp at h0
  obtain ⟨rfl, rfl, rfl⟩ := h0
  have hl : (l.take m).length = m := by rw [List.length_take, Nat.min_eq_left hm]
  refine ⟨ao, cap, by rw [hl], by omega, k2, k3, fun h0 => ?_⟩
  obtain ⟨b, off, rfl, hp, hb, he⟩ := k4 (by omega)
  refine ⟨b, off, rfl, hp, hb, fun k x hx => he k x ?_⟩
  rw [List.getElem?_take] at hx
  split at hx
  · exact hx
  · cases hx
theorem Ty.fresh_rd {α : Type} {S : Ty α} {B : Nat} {w : World} {cs : List Value} {x : α} (h : S.fresh B w cs x) : S.rd (fun k => B ≤ k) w cs x := by
  obtain ⟨bs, h1, _, h3⟩ := h
  exact S.keep (S.own_rd h1) (fun k hk hl => ⟨h3 k hk, rfl, hl⟩)
/-- What is read from blocks from B on is kept where one below B is written. -/
theorem Ty.rd_set {α : Type} {S : Ty α} {B : Nat} {w : World} {cs : List Value} {x : α} {a : Addr} {u : Value} (h : S.rd (fun k => B ≤ k) w cs x) (ha : a.block < B) : S.rd (fun k => B ≤ k) (w.setCell a u) cs x :=
  S.keep h (fun k hp hl => by
    have ht := (Turns.refl [a.block] w).setCell (p := a) (.inl (by simp)) u
    exact ⟨hp, ht.block k hl (by simp; omega), Nat.lt_of_lt_of_le hl ht.size⟩)
set_option maxHeartbeats 1600000 in
theorem impl_trimmedP (p : Nat → Prop) (v : Value) (l : List Int) (N : Nat) (w : World) (hv : tInts.rd p w [v] l) (hl : l.length ≤ 1048576) (hok : IsL l) (hval : val l = N) :
    Calls Tryz.prog 88 #[v] w fun e w' => ∃ v', e = .returned v' ∧ More w w' ∧ tInts.rd p w' [v'] (limbs N) := by
  obtain ⟨ao, cap, rfl, k1, k2, k3, -⟩ := slRd_at hv
  have HV := Lib.hid hv; have HOK := Lib.hid hok; have HVAL := Lib.hid hval; clear hv hok hval
  have hcap : cap ≤ 9223372036854775807 := by unfold maxLen at k2; omega
  clear k2
  obtain ⟨n, hn⟩ : ∃ n, n = l.length := ⟨_, rfl⟩
  rw [← hn] at HV hl k1 ⊢
  have HN := Lib.hid hn; clear hn
  go_enter Tryz.func88, Tryz.ntmps88
  go_wp2_with fail
  go_loopw [3] (fun i wr => ∃ m : Nat, m ≤ n ∧ i = .int .i64 m ∧ More w wr ∧ Hid (∀ j, m ≤ j → j < n → l.getD j 0 = 0)) (fun i _ => (intOf i).toNat)
  case atStart => exact ⟨n, Nat.le_refl _, rfl, More.refl _, Lib.hid (fun j h1 h2 => by omega)⟩
  case round =>
    obtain ⟨m, hmn, rfl, hm, HZ⟩ := hrel
    by_cases h0 : 0 < m
    · have hi0 : (0 : Int) < (m : Int) := by omega
      have hi1 : (m : Int) - 1 < (n : Int) := by omega
      have hi2 : (0 : Int) ≤ (m : Int) - 1 := by omega
      have hwk : IntKind.i64.wrap ((m : Int) - 1) = (m : Int) - 1 := IntWalk.i64_in _ (by omega)
      have e9 : ((m : Int) - 1).toNat = m - 1 := by omega
      obtain ⟨b, off, x, rfl, hblt, hx, ox, c0⟩ := int_el (Ty.at_more (Ty.rd_at HV.out) hm) (k := m - 1) (by rw [← HN.out]; omega)
      have HX := Lib.hid hx; clear hx ox
      by_cases hz : x = 0
      · subst hz
        go_wp2_with fail
        go_roundw
        case rel => exact ⟨m - 1, by omega, by go_num, mC, Lib.hid (fun j h1 h2 => by
          by_cases hj : j = m - 1
          · subst hj; rw [List.getD_eq_getElem?_getD, HX.out]; rfl
          · exact HZ.out j (by omega) h2)⟩
        case measure => simp [intOf]; omega
      · have hz' : (x == 0) = false := by simp [hz]
        go_wp2_with fail
        go_ret
        refine ⟨_, rfl, mC, ?_⟩
        have h2 := trim_limbs HOK.out HVAL.out (m := m) (by rw [← HN.out]; exact hmn) (fun j h1 h2 => HZ.out j h1 (by rw [HN.out]; exact h2)) (.inr (by rw [List.getD_eq_getElem?_getD, HX.out]; exact hz))
        rw [← h2]
        exact sl_takeP (Ty.rd_more HV.out mC) hmn
    · have hi0 : ¬ (0 : Int) < (m : Int) := by omega
      have hm0 : m = 0 := by omega
      subst hm0
      go_wp2_with fail
      go_ret
      refine ⟨_, rfl, mC, ?_⟩
      have h2 := trim_limbs HOK.out HVAL.out (m := 0) (by omega) (fun j h1 h2 => HZ.out j h1 (by rw [HN.out]; exact h2)) (.inl rfl)
      rw [← h2]
      exact sl_takeP (Ty.rd_more HV.out mC) hmn
set_option maxHeartbeats 1600000 in
theorem spec_l02TrimP (p : Nat → Prop) (v : Value) (l : List Int) (N : Nat) (w : World) (hv : tInts.rd p w [v] l) (hl : l.length ≤ 1048576) (hok : IsL l) (hval : val l = N) :
    Calls Tryz.prog 79 #[v] w fun e w' => ∃ v', e = .returned v' ∧ More w w' ∧ tInts.rd p w' [v'] (limbs N) := by
  obtain ⟨ao, cap, rfl, k1, k2, k3, -⟩ := slRd_at hv
  have HV := Lib.hid hv; have HOK := Lib.hid hok; have HVAL := Lib.hid hval; clear hv hok hval
  have hcap : cap ≤ 9223372036854775807 := by unfold maxLen at k2; omega
  clear k2
  obtain ⟨n, hn⟩ : ∃ n, n = l.length := ⟨_, rfl⟩
  rw [← hn] at HV hl k1 ⊢
  have HN := Lib.hid hn; clear hn
  go_enter Tryz.func79, Tryz.ntmps79
  go_wp2_with fail
  go_loopw [3] (fun i wr => ∃ m : Nat, m ≤ n ∧ i = .int .i64 m ∧ More w wr ∧ Hid (∀ j, m ≤ j → j < n → l.getD j 0 = 0)) (fun i _ => (intOf i).toNat)
  case atStart => exact ⟨n, Nat.le_refl _, rfl, More.refl _, Lib.hid (fun j h1 h2 => by omega)⟩
  case round =>
    obtain ⟨m, hmn, rfl, hm, HZ⟩ := hrel
    by_cases h0 : 0 < m
    · have hi0 : (0 : Int) < (m : Int) := by omega
      have hi1 : (m : Int) - 1 < (n : Int) := by omega
      have hi2 : (0 : Int) ≤ (m : Int) - 1 := by omega
      have hwk : IntKind.i64.wrap ((m : Int) - 1) = (m : Int) - 1 := IntWalk.i64_in _ (by omega)
      have e9 : ((m : Int) - 1).toNat = m - 1 := by omega
      obtain ⟨b, off, x, rfl, hblt, hx, ox, c0⟩ := int_el (Ty.at_more (Ty.rd_at HV.out) hm) (k := m - 1) (by rw [← HN.out]; omega)
      have HX := Lib.hid hx; clear hx ox
      by_cases hz : x = 0
      · subst hz
        go_wp2_with fail
        go_roundw
        case rel => exact ⟨m - 1, by omega, by go_num, mC, Lib.hid (fun j h1 h2 => by
          by_cases hj : j = m - 1
          · subst hj; rw [List.getD_eq_getElem?_getD, HX.out]; rfl
          · exact HZ.out j (by omega) h2)⟩
        case measure => simp [intOf]; omega
      · have hz' : (x == 0) = false := by simp [hz]
        go_wp2_with fail
        go_ret
        refine ⟨_, rfl, mC, ?_⟩
        have h2 := trim_limbs HOK.out HVAL.out (m := m) (by rw [← HN.out]; exact hmn) (fun j h1 h2 => HZ.out j h1 (by rw [HN.out]; exact h2)) (.inr (by rw [List.getD_eq_getElem?_getD, HX.out]; exact hz))
        rw [← h2]
        exact sl_takeP (Ty.rd_more HV.out mC) hmn
    · have hi0 : ¬ (0 : Int) < (m : Int) := by omega
      have hm0 : m = 0 := by omega
      subst hm0
      go_wp2_with fail
      go_ret
      refine ⟨_, rfl, mC, ?_⟩
      have h2 := trim_limbs HOK.out HVAL.out (m := 0) (by omega) (fun j h1 h2 => HZ.out j h1 (by rw [HN.out]; exact h2)) (.inl rfl)
      rw [← h2]
      exact sl_takeP (Ty.rd_more HV.out mC) hmn
set_option maxRecDepth 4000 in
set_option maxHeartbeats 12800000 in
theorem impl_natDiv (v v' : Value) (a b : Nat) (w : World) (hv : tInts.at w [v] (limbs a)) (hv' : tInts.at w [v'] (limbs b)) (hl : (limbs a).length ≤ 4000) (hmB : (limbs b).length ≤ 4000) (hb0 : 0 < b) :
    Calls Tryz.prog 124 #[v, v'] w fun e w' => ∃ q r, e = .returned (.tuple #[q, r]) ∧ More w w' ∧ tInts.at w' [q] (limbs (a / b)) ∧ tInts.at w' [r] (limbs (a % b)) := by
  obtain ⟨ao, cap, rfl⟩ := sl_len hv
  obtain ⟨ao', cap', rfl⟩ := sl_len hv'
  have HV := Lib.hid hv; have HV' := Lib.hid hv'; have HM := Lib.hid hmB; have HL := Lib.hid hl; clear hv hv'
  have HNB : Hid (0 < (limbs b).length) := Lib.hid (limbs_len_pos.2 (by omega))
  obtain ⟨NN, hn⟩ : ∃ n, n = (limbs a).length := ⟨_, rfl⟩
  obtain ⟨NB, hn'⟩ : ∃ n, n = (limbs b).length := ⟨_, rfl⟩
  rw [← hn] at HV HL hl ⊢
  rw [← hn'] at HV' HM HNB hmB ⊢
  have HN := Lib.hid hn; have HN' := Lib.hid hn'; clear hn hn'
  have hnb := HNB.out
  obtain ⟨i0, hi, hz0, hz1, hz2⟩ := info_parts infoInt_
  by_cases hab : a < b
  · have hc0 : cmpI (a : Int) (b : Int) < 0 := cmpI_neg.2 (by omega)
    obtain ⟨c, ec⟩ : ∃ c, cmpI (a : Int) (b : Int) = c := ⟨_, rfl⟩
    have EC := Lib.hid ec
    rw [ec] at hc0; clear ec
    go_enter Tryz.func124, Tryz.ntmps124
    go_wp2_with (go_at_call 142; refine (impl_natCmp _ _ a b _ (Ty.at_more HV.out mC) (Ty.at_more HV'.out mC) (by rw [← HN.out]; omega) (by rw [← HN'.out]; omega)).mono ?_; rintro e wc ⟨rfl, hbc⟩; rw [EC.out])
    go_ret2
    exact ⟨_, _, rfl, mC, by rw [Nat.div_eq_of_lt hab, limbs_zero]; exact Ty.fresh_at (B := 0) nil_fresh, by rw [Nat.mod_eq_of_lt hab]; exact Ty.at_more HV.out mC⟩
  have hc0 : ¬ cmpI (a : Int) (b : Int) < 0 := fun h => hab (by have := cmpI_neg.1 h; omega)
  obtain ⟨c, ec⟩ : ∃ c, cmpI (a : Int) (b : Int) = c := ⟨_, rfl⟩
  have EC := Lib.hid ec
  rw [ec] at hc0; clear ec
  by_cases h1 : NB = 1
  · subst h1
    have hb1 : b < 1000000000 := by
      have h2 := limbs_len_le (n := b) (k := 1).1 (by rw [← HN'.out]; exact Nat.le_refl _)
      have h3 : bp 1 = 1000000000 := by decide
      omega
    obtain ⟨px, offx, x, rfl, hbltx, hxx, -, ccx⟩ := int_el HV'.out (k := 0) (by rw [← HN'.out]; omega)
    have hxb : x = (b : Int) := by
      rw [limbs_one (by omega) hb1] at hxx
      simpa using hxx.symm
    subst hxb
    clear hxx
    rw [Nat.add_zero] at ccx
    have HMB : Hid (a % b < 9223372036854775808) := Lib.hid (by have := Nat.mod_lt a hb0; omega)
    go_enter Tryz.func124, Tryz.ntmps124
    go_wp2_with (first | (go_at_call 142; refine (impl_natCmp _ _ a b _ (Ty.at_more HV.out mC) (Ty.at_more HV'.out mC) (by rw [← HN.out]; omega) (by rw [← HN'.out]; omega)).mono ?_; rintro e wc ⟨rfl, hbc⟩; rw [EC.out]; have ccx1 := box_keep hbc hbltx ccx) | (go_at_call 125; refine (impl_natDivSmall _ a b _ (Ty.at_more HV.out mC) (by rw [← HN.out]; omega) hb0 hb1).mono ?_; rintro e w2 ⟨u2, rfl, hb2, g2⟩; have G1 := Lib.hid g2; clear g2) | (go_at_call 148; refine (impl_natOf (a % b) _ HMB.out).mono ?_; rintro e w3 ⟨u3, rfl, hb3, g3⟩; have G2 := Lib.hid g3; clear g3))
    go_ret2
    exact ⟨_, _, rfl, mC, Ty.at_more G1.out mC, Ty.at_more G2.out mC⟩
  have h1e : ((NB : Int) == 1) = false := by simp; omega
  have h2 : 2 ≤ NB := by omega
  go_enter Tryz.func124, Tryz.ntmps124
  go_wp2_with (first | (go_at_call 142; refine (impl_natCmp _ _ a b _ (Ty.at_more HV.out mC) (Ty.at_more HV'.out mC) (by rw [← HN.out]; omega) (by rw [← HN'.out]; omega)).mono ?_; rintro e wc ⟨rfl, hbc⟩; rw [EC.out]) | (at_make; refine wpList_make_full _ rfl _ _ 22 rfl wc.heap.size 3 i0 (.int .i64 0) 1 Tryz.underlying22 hi hz0 hz1 _ _ _ _ NN rfl rfl ?_ ?_ ?_ ?_ ?_ ?_))
  all_goals first | rfl | omega | (rw [hz2]; omega) | (unfold maxLen; omega) | exact Nat.le_refl _ | skip
  intro w1 hown hgr
  have hb1 : More wc w1 := Turns.more ((Turns.refl _ _).grown hgr (by simp))
  have HO : Hid (RowI wc.heap.size 3 w1 wc.heap.size NN (List.replicate NN 0)) := Lib.hid (RowI.made (by rw [Nat.mul_one]; exact hown))
  clear hown hgr
  go_wp2_with fail
  go_loopw [9,10] (fun rs i wr => ∃ (k : Nat) (xs : List Int) (r0 : Nat) (u : Value), k ≤ NN ∧ i = .int .i64 ((k : Int) - 1) ∧ rs = u ∧ More wc wr ∧ Hid (RowI wc.heap.size 3 wr wc.heap.size NN xs) ∧ Hid (tInts.at wr [u] (limbs r0)) ∧ Hid (DivInv a b k xs r0)) (fun _ i _ => (intOf i + 1).toNat)
  case atStart => exact ⟨NN, _, 0, _, Nat.le_refl _, by go_num, rfl, mC, Lib.hid (HO.out.more mC), Lib.hid (FlatOwn.at (F := fInt) (FlatOwn.lit (B := 0) (Nat.zero_le _))), Lib.hid (by rw [HN.out]; exact DivInv.start a b (by omega))⟩
  case round =>
    clear HO hb1
    obtain ⟨k, xs, r0, u, hk, rfl, rfl, hm, HR, HU, HI⟩ := hrel
    by_cases h0 : 0 < k
    · obtain ⟨p, hp⟩ : ∃ p, k = p + 1 := ⟨k - 1, by omega⟩
      subst hp
      have hpN : p < NN := by omega
      have hpi : (p : Int) < (NN : Int) := by omega
      have hp0 : (0 : Int) ≤ (p : Int) := by omega
      have hkp : ((p + 1 : Nat) : Int) - 1 = (p : Int) := by omega
      rw [hkp]
      have hwk : IntKind.i64.wrap ((p : Int) - 1) = (p : Int) - 1 := IntWalk.i64_in _ (by omega)
      have hmw : More w wr := More.trans (show More w wc from hbc) hm
      have hszc : w.heap.size ≤ wc.heap.size := ((show More w wc from hbc)).size
      obtain ⟨px, offx, x, rfl, hbltx, hxx, -, ccx⟩ := int_el (Ty.at_more HV.out hmw) (k := p) (by rw [← HN.out]; exact hpN)
      have GX : Hid ((limbs a).getD p 0 = x) := Lib.hid (by rw [List.getD_eq_getElem?_getD, hxx]; rfl)
      have hgx := limbs_get a p
      rw [GX.out] at hgx
      clear hxx
      obtain ⟨q0, f0, -, hg0⟩ := HR.out.get (k := p) hpN
      obtain ⟨m, hm'⟩ : ∃ m : Nat, (m : Int) = (r0 : Int) * 1000000000 + x := ⟨(r0 * 1000000000 + x.toNat), by omega⟩
      have HI2 : Hid (DivInv a b p (xs.set p ((m / b : Nat) : Int)) (m % b)) := Lib.hid (HI.out.step (by rw [GX.out]; exact hm'))
      have HI3 : Hid (m < b → DivInv a b p xs m) := Lib.hid (fun h => HI.out.skip (by rw [GX.out]; exact hm') h)
      have HMB : Hid (m < b * 1000000000) := Lib.hid (HI.out.mlt (by rw [GX.out]; exact hm'))
      have HRL : Hid ((limbs r0).length ≤ 4096) := Lib.hid (Nat.le_trans (limbs_len_mono (Nat.le_of_lt HI.out.rest)) (by rw [← HN'.out]; omega))
      have HML : Hid ((limbs m).length ≤ 4096) := Lib.hid (Nat.le_trans (limbs_len_mono (Nat.le_of_lt HMB.out)) (Nat.le_trans (limbs_len_mul b 1000000000) (by have h5 := HN'.out; have h6 : (limbs 1000000000).length ≤ 2 := limbs_len_le.2 (by decide); omega)))
      have HXL : Hid (IsL (x :: limbs r0)) := Lib.hid (IsL.mk hgx (limbs_isL r0))
      have HXV : Hid (val (x :: limbs r0) = m) := Lib.hid (by rw [hm']; show x + 1000000000 * val (limbs r0) = _; rw [limbs_val]; omega)
      have HNR : Hid ((x :: limbs r0).length ≤ 1048576) := Lib.hid (by have := HRL.out; simp; omega)
      have HOX : Hid (In64 x) := Lib.hid (In64.small (by omega))
      clear hm' hmw
      by_cases hlt : m < b
      · have hc1 : cmpI (m : Int) (b : Int) < 0 := cmpI_neg.2 (by omega)
        obtain ⟨c1, ec⟩ : ∃ c, cmpI (m : Int) (b : Int) = c := ⟨_, rfl⟩
        have EC1 := Lib.hid ec
        rw [ec] at hc1; clear ec
        have hc2 : ¬ 0 ≤ c1 := by omega
        go_wp2_with (at_builtin; refine wpList_appAll fInt _ rfl _ _ 22 rfl wr.heap.size 3 i0 (.int .i64 0) 8 Tryz.underlying22 hi hz0 hz1 hz2 rfl (by decide) rfl (FlatOwn.lit1 (Nat.le_refl _) (by first | rfl | simp [fInt]) HOX.out) (More.refl _) rfl (Ty.at_more HU.out mC) (Lib.hid (by have := HRL.out; simp; omega)) (by decide) (Lib.hid (by simp)) ?_)
        intro v2 w2 hl2 hmw2
        have HF : Hid (tInts.rd (fun k => wr.heap.size ≤ k) w2 [v2] (x :: limbs r0)) := Lib.hid (Ty.fresh_rd hl2.fresh)
        have hb2 : More wr w2 := hmw2 _ rfl mC
        clear hl2 hmw2
        go_wp2_with (first | (go_at_call 88; refine (impl_trimmedP _ _ (x :: limbs r0) m _ (Ty.rd_more HF.out mC) HNR.out HXL.out HXV.out).mono ?_; rintro e w3 ⟨u3, rfl, hb3, g3⟩; have G3 := Lib.hid g3; clear g3) | (go_at_call 142; refine (impl_natCmp _ _ m b _ (Ty.at_more (Ty.rd_at G3.out) mC) (Ty.at_more HV'.out mC) (by have := HML.out; omega) (by rw [← HN'.out]; omega)).mono ?_; rintro e w4 ⟨rfl, hb4⟩; rw [EC1.out]))
        go_roundw
        case rel => exact ⟨p, xs, m, _, by omega, by go_num, rfl, mC, Lib.hid (HR.out.more mC), Lib.hid (Ty.at_more (Ty.rd_at G3.out) mC), Lib.hid (HI3.out hlt)⟩
        case measure => simp [intOf]; try omega
      · have hc1 : ¬ cmpI (m : Int) (b : Int) < 0 := fun h => hlt (by have := cmpI_neg.1 h; omega)
        obtain ⟨c1, ec⟩ : ∃ c, cmpI (m : Int) (b : Int) = c := ⟨_, rfl⟩
        have EC1 := Lib.hid ec
        rw [ec] at hc1; clear ec
        have hc2 : 0 ≤ c1 := by omega
        have hmq : m / b < 1000000000 := by
          rw [Nat.div_lt_iff_lt_mul hb0, Nat.mul_comm]
          exact HMB.out
        have HQM : Hid (m - b * (m / b) = m % b) := Lib.hid (by have := Nat.div_add_mod m b; omega)
        have HQL : Hid (b * (m / b) ≤ m) := Lib.hid (Nat.mul_div_le m b)
        obtain ⟨qq, hqq⟩ : ∃ qq, m / b = qq := ⟨_, rfl⟩
        rw [hqq] at HI2 hmq HQM HQL
        have HQ := Lib.hid hqq; clear hqq
        have HQI : Hid (In64 (qq : Int)) := Lib.hid (In64.small (by omega))
        have HQN : Hid ((limbs qq).length ≤ 4096) := Lib.hid (Nat.le_trans (limbs_len_le (k := 1).2 (by have h3 : bp 1 = 1000000000 := (by decide); omega)) (by decide))
        have HPL : Hid ((limbs (b * qq)).length ≤ 4096) := Lib.hid (Nat.le_trans (limbs_len_mono HQL.out) HML.out)
        go_wp2_with (at_builtin; refine wpList_appAll fInt _ rfl _ _ 22 rfl wr.heap.size 3 i0 (.int .i64 0) 8 Tryz.underlying22 hi hz0 hz1 hz2 rfl (by decide) rfl (FlatOwn.lit1 (Nat.le_refl _) (by first | rfl | simp [fInt]) HOX.out) (More.refl _) rfl (Ty.at_more HU.out mC) (Lib.hid (by have := HRL.out; simp; omega)) (by decide) (Lib.hid (by simp)) ?_)
        intro v2 w2 hl2 hmw2
        have HF : Hid (tInts.rd (fun k => wr.heap.size ≤ k) w2 [v2] (x :: limbs r0)) := Lib.hid (Ty.fresh_rd hl2.fresh)
        have hb2 : More wr w2 := hmw2 _ rfl mC
        clear hl2 hmw2
        go_wp2_with (first | (go_at_call 88; refine (impl_trimmedP _ _ (x :: limbs r0) m _ (Ty.rd_more HF.out mC) HNR.out HXL.out HXV.out).mono ?_; rintro e w3 ⟨u3, rfl, hb3, g3⟩; have G3 := Lib.hid g3; clear g3) | (go_at_call 142; refine (impl_natCmp _ _ m b _ (Ty.at_more (Ty.rd_at G3.out) mC) (Ty.at_more HV'.out mC) (by have := HML.out; omega) (by rw [← HN'.out]; omega)).mono ?_; rintro e w4 ⟨rfl, hb4⟩; rw [EC1.out]))
        all_goals go_wp2_with (first | (go_at_call 157; refine (impl_digit _ _ m b _ (Ty.at_more (Ty.rd_at G3.out) mC) (Ty.at_more HV'.out mC) HML.out (by rw [← HN'.out]; omega) (by rw [← HN'.out]; omega) (Nat.le_of_not_lt hlt) HMB.out).mono ?_; rintro e w5 ⟨rfl, hb5⟩; rw [HQ.out]; have G3S : Hid (tInts.rd (fun k => wr.heap.size ≤ k) (w5.setCell ⟨wc.heap.size, p, none⟩ (.int .i64 (qq : Int))) [u3] (limbs m)) := Lib.hid (Ty.rd_set (Ty.rd_more G3.out mC) hg0); have HVS : Hid (tInts.at (w5.setCell ⟨wc.heap.size, p, none⟩ (.int .i64 (qq : Int))) [.slice ao' NB cap'] (limbs b)) := Lib.hid (Ty.at_more HV'.out mC2); have hm5 : More wr w5 := mC; have q5 : w5.cell? ⟨wc.heap.size, p, none⟩ = some (.int .i64 (xs.getD p 0)) := box_keep hm5 hg0 q0; have f5 : w5.frozen? ⟨wc.heap.size, p, none⟩ = false := free_keep hm5 hg0 f0; have q6 : (w5.setCell ⟨wc.heap.size, p, none⟩ (.int .i64 (qq : Int))).cell? ⟨wc.heap.size, p, none⟩ = some (.int .i64 (qq : Int)) := World.cell?_setCell_same _ _ _ q5; have HRS : Hid (RowI wc.heap.size 3 (w5.setCell ⟨wc.heap.size, p, none⟩ (.int .i64 (qq : Int))) wc.heap.size NN (xs.set p (qq : Int))) := Lib.hid ((HR.out.more hm5).set hpN HQI.out); clear hm5) | (go_at_call 148; refine (impl_natOf qq _ (by omega)).mono ?_; rintro e w6 ⟨u6, rfl, hb6, g6⟩; have G6 := Lib.hid g6; clear g6) | (go_at_call 108; refine (impl_natMul _ _ b qq _ (Ty.at_more HVS.out mC) (Ty.at_more G6.out mC) (by rw [← HN'.out]; omega) HQN.out).mono ?_; rintro e w7 ⟨u7, rfl, hb7, g7⟩; have G6B := Lib.hid g7; clear g7) | (go_at_call 143; refine (impl_natSub _ _ m (b * qq) _ (Ty.at_more (Ty.rd_at G3S.out) mC) (Ty.at_more G6B.out mC) HML.out HPL.out HQL.out).mono ?_; rintro e w8 ⟨u8, rfl, hb8, g8⟩; have G7 := Lib.hid g8; clear g8))
        go_roundw
        case rel => exact ⟨p, _, m % b, _, by omega, by go_num, rfl, mC2, Lib.hid (HRS.out.more mC), Lib.hid (by rw [← HQM.out]; exact Ty.at_more G7.out mC), HI2⟩
        case measure => simp [intOf]; try omega
    · have hk0 : k = 0 := by omega
      subst hk0
      have HD := Lib.hid HI.out.done
      go_wp2_with (go_at_call 88; refine (impl_trimmed _ xs (a / b) _ (Ty.at_more HR.out.at mC) (by rw [HI.out.len, ← HN.out]; omega) HD.out.1 HD.out.2.1).mono ?_; rintro e w9 ⟨u9, rfl, hb9, g9⟩; have G9 := Lib.hid g9; clear g9)
      go_ret2
      exact ⟨_, _, rfl, More.trans (show More w wc from hbc) mC, G9.out, by rw [← HD.out.2.2]; exact Ty.at_more HU.out mC⟩
set_option maxRecDepth 4000 in
set_option maxHeartbeats 12800000 in
theorem spec_l02Div (v v' : Value) (a b : Nat) (w : World) (hv : tInts.at w [v] (limbs a)) (hv' : tInts.at w [v'] (limbs b)) (hl : (limbs a).length ≤ 4000) (hmB : (limbs b).length ≤ 4000) (hb0 : 0 < b) :
    Calls Tryz.prog 152 #[v, v'] w fun e w' => ∃ q r, e = .returned (.tuple #[q, r]) ∧ More w w' ∧ tInts.at w' [q] (limbs (a / b)) ∧ tInts.at w' [r] (limbs (a % b)) := by
  obtain ⟨ao, cap, rfl⟩ := sl_len hv
  obtain ⟨ao', cap', rfl⟩ := sl_len hv'
  have HV := Lib.hid hv; have HV' := Lib.hid hv'; have HM := Lib.hid hmB; have HL := Lib.hid hl; clear hv hv'
  have HNB : Hid (0 < (limbs b).length) := Lib.hid (limbs_len_pos.2 (by omega))
  obtain ⟨NN, hn⟩ : ∃ n, n = (limbs a).length := ⟨_, rfl⟩
  obtain ⟨NB, hn'⟩ : ∃ n, n = (limbs b).length := ⟨_, rfl⟩
  rw [← hn] at HV HL hl ⊢
  rw [← hn'] at HV' HM HNB hmB ⊢
  have HN := Lib.hid hn; have HN' := Lib.hid hn'; clear hn hn'
  have hnb := HNB.out
  obtain ⟨i0, hi, hz0, hz1, hz2⟩ := info_parts infoInt_
  by_cases h1 : NB = 1
  · subst h1
    have hb1 : b < 1000000000 := by
      have h2 := limbs_len_le (n := b) (k := 1).1 (by rw [← HN'.out]; exact Nat.le_refl _)
      have h3 : bp 1 = 1000000000 := by decide
      omega
    obtain ⟨px, offx, x, rfl, hbltx, hxx, -, ccx⟩ := int_el HV'.out (k := 0) (by rw [← HN'.out]; omega)
    have hxb : x = (b : Int) := by
      rw [limbs_one (by omega) hb1] at hxx
      simpa using hxx.symm
    subst hxb
    clear hxx
    rw [Nat.add_zero] at ccx
    have HMB : Hid (a % b < 9223372036854775808) := Lib.hid (by have := Nat.mod_lt a hb0; omega)
    go_enter Tryz.func152, Tryz.ntmps152
    go_wp2_with (first | (go_at_call 176; refine (spec_l02Small _ a b _ (Ty.at_more HV.out mC) (by rw [← HN.out]; omega) hb0 hb1).mono ?_; rintro e w2 ⟨u2, rfl, hb2, g2⟩; have G1 := Lib.hid g2; clear g2) | (go_at_call 130; refine (spec_NatOf (a % b) _ HMB.out).mono ?_; rintro e w3 ⟨u3, rfl, hb3, g3⟩; have G2 := Lib.hid g3; clear g3))
    go_ret2
    exact ⟨_, _, rfl, mC, Ty.at_more G1.out mC, Ty.at_more G2.out mC⟩
  have h1e : ((NB : Int) == 1) = false := by simp; omega
  have h2 : 2 ≤ NB := by omega
  go_enter Tryz.func152, Tryz.ntmps152
  go_wp2_with (at_make; refine wpList_make_full _ rfl _ _ 22 rfl w.heap.size 3 i0 (.int .i64 0) 1 Tryz.underlying22 hi hz0 hz1 _ _ _ _ NN rfl rfl ?_ ?_ ?_ ?_ ?_ ?_)
  all_goals first | rfl | omega | (rw [hz2]; omega) | (unfold maxLen; omega) | exact Nat.le_refl _ | skip
  intro w1 hown hgr
  have hb1 : More w w1 := Turns.more ((Turns.refl _ _).grown hgr (by simp))
  have HO : Hid (RowI w.heap.size 3 w1 w.heap.size NN (List.replicate NN 0)) := Lib.hid (RowI.made (by rw [Nat.mul_one]; exact hown))
  clear hown hgr
  go_wp2_with fail
  go_loopw [9,10] (fun rs i wr => ∃ (k : Nat) (xs : List Int) (r0 : Nat) (u : Value), k ≤ NN ∧ i = .int .i64 ((k : Int) - 1) ∧ rs = u ∧ More w wr ∧ Hid (RowI w.heap.size 3 wr w.heap.size NN xs) ∧ Hid (tInts.at wr [u] (limbs r0)) ∧ Hid (DivInv a b k xs r0)) (fun _ i _ => (intOf i + 1).toNat)
  case atStart => exact ⟨NN, _, 0, _, Nat.le_refl _, by go_num, rfl, mC, Lib.hid (HO.out.more mC), Lib.hid (FlatOwn.at (F := fInt) (FlatOwn.lit (B := 0) (Nat.zero_le _))), Lib.hid (by rw [HN.out]; exact DivInv.start a b (by omega))⟩
  case round =>
    clear HO hb1
    obtain ⟨k, xs, r0, u, hk, rfl, rfl, hm, HR, HU, HI⟩ := hrel
    by_cases h0 : 0 < k
    · obtain ⟨p, hp⟩ : ∃ p, k = p + 1 := ⟨k - 1, by omega⟩
      subst hp
      have hpN : p < NN := by omega
      have hpi : (p : Int) < (NN : Int) := by omega
      have hp0 : (0 : Int) ≤ (p : Int) := by omega
      have hkp : ((p + 1 : Nat) : Int) - 1 = (p : Int) := by omega
      rw [hkp]
      have hwk : IntKind.i64.wrap ((p : Int) - 1) = (p : Int) - 1 := IntWalk.i64_in _ (by omega)
      have hmw : More w wr := More.trans (More.refl w) hm
      have hszc : w.heap.size ≤ w.heap.size := ((More.refl w)).size
      obtain ⟨px, offx, x, rfl, hbltx, hxx, -, ccx⟩ := int_el (Ty.at_more HV.out hmw) (k := p) (by rw [← HN.out]; exact hpN)
      have GX : Hid ((limbs a).getD p 0 = x) := Lib.hid (by rw [List.getD_eq_getElem?_getD, hxx]; rfl)
      have hgx := limbs_get a p
      rw [GX.out] at hgx
      clear hxx
      obtain ⟨q0, f0, -, hg0⟩ := HR.out.get (k := p) hpN
      obtain ⟨m, hm'⟩ : ∃ m : Nat, (m : Int) = (r0 : Int) * 1000000000 + x := ⟨(r0 * 1000000000 + x.toNat), by omega⟩
      have HI2 : Hid (DivInv a b p (xs.set p ((m / b : Nat) : Int)) (m % b)) := Lib.hid (HI.out.step (by rw [GX.out]; exact hm'))
      have HI3 : Hid (m < b → DivInv a b p xs m) := Lib.hid (fun h => HI.out.skip (by rw [GX.out]; exact hm') h)
      have HMB : Hid (m < b * 1000000000) := Lib.hid (HI.out.mlt (by rw [GX.out]; exact hm'))
      have HRL : Hid ((limbs r0).length ≤ 4096) := Lib.hid (Nat.le_trans (limbs_len_mono (Nat.le_of_lt HI.out.rest)) (by rw [← HN'.out]; omega))
      have HML : Hid ((limbs m).length ≤ 4096) := Lib.hid (Nat.le_trans (limbs_len_mono (Nat.le_of_lt HMB.out)) (Nat.le_trans (limbs_len_mul b 1000000000) (by have h5 := HN'.out; have h6 : (limbs 1000000000).length ≤ 2 := limbs_len_le.2 (by decide); omega)))
      have HXL : Hid (IsL (x :: limbs r0)) := Lib.hid (IsL.mk hgx (limbs_isL r0))
      have HXV : Hid (val (x :: limbs r0) = m) := Lib.hid (by rw [hm']; show x + 1000000000 * val (limbs r0) = _; rw [limbs_val]; omega)
      have HNR : Hid ((x :: limbs r0).length ≤ 1048576) := Lib.hid (by have := HRL.out; simp; omega)
      have HOX : Hid (In64 x) := Lib.hid (In64.small (by omega))
      clear hm' hmw
      by_cases hlt : m < b
      · have hc1 : cmpI (m : Int) (b : Int) < 0 := cmpI_neg.2 (by omega)
        obtain ⟨c1, ec⟩ : ∃ c, cmpI (m : Int) (b : Int) = c := ⟨_, rfl⟩
        have EC1 := Lib.hid ec
        rw [ec] at hc1; clear ec
        have hc2 : ¬ 0 ≤ c1 := by omega
        go_wp2_with (at_builtin; refine wpList_appAll fInt _ rfl _ _ 22 rfl wr.heap.size 3 i0 (.int .i64 0) 8 Tryz.underlying22 hi hz0 hz1 hz2 rfl (by decide) rfl (FlatOwn.lit1 (Nat.le_refl _) (by first | rfl | simp [fInt]) HOX.out) (More.refl _) rfl (Ty.at_more HU.out mC) (Lib.hid (by have := HRL.out; simp; omega)) (by decide) (Lib.hid (by simp)) ?_)
        intro v2 w2 hl2 hmw2
        have HF : Hid (tInts.rd (fun k => wr.heap.size ≤ k) w2 [v2] (x :: limbs r0)) := Lib.hid (Ty.fresh_rd hl2.fresh)
        have hb2 : More wr w2 := hmw2 _ rfl mC
        clear hl2 hmw2
        go_wp2_with (first | (go_at_call 79; refine (spec_l02TrimP _ _ (x :: limbs r0) m _ (Ty.rd_more HF.out mC) HNR.out HXL.out HXV.out).mono ?_; rintro e w3 ⟨u3, rfl, hb3, g3⟩; have G3 := Lib.hid g3; clear g3) | (go_at_call 159; refine (spec_l02Cmp _ _ m b _ (Ty.at_more (Ty.rd_at G3.out) mC) (Ty.at_more HV'.out mC) (by have := HML.out; omega) (by rw [← HN'.out]; omega)).mono ?_; rintro e w4 ⟨rfl, hb4⟩; rw [EC1.out]))
        go_roundw
        case rel => exact ⟨p, xs, m, _, by omega, by go_num, rfl, mC, Lib.hid (HR.out.more mC), Lib.hid (Ty.at_more (Ty.rd_at G3.out) mC), Lib.hid (HI3.out hlt)⟩
        case measure => simp [intOf]; try omega
      · have hc1 : ¬ cmpI (m : Int) (b : Int) < 0 := fun h => hlt (by have := cmpI_neg.1 h; omega)
        obtain ⟨c1, ec⟩ : ∃ c, cmpI (m : Int) (b : Int) = c := ⟨_, rfl⟩
        have EC1 := Lib.hid ec
        rw [ec] at hc1; clear ec
        have hc2 : 0 ≤ c1 := by omega
        have hmq : m / b < 1000000000 := by
          rw [Nat.div_lt_iff_lt_mul hb0, Nat.mul_comm]
          exact HMB.out
        have HQM : Hid (m - b * (m / b) = m % b) := Lib.hid (by have := Nat.div_add_mod m b; omega)
        have HQL : Hid (b * (m / b) ≤ m) := Lib.hid (Nat.mul_div_le m b)
        obtain ⟨qq, hqq⟩ : ∃ qq, m / b = qq := ⟨_, rfl⟩
        rw [hqq] at HI2 hmq HQM HQL
        have HQ := Lib.hid hqq; clear hqq
        have HQI : Hid (In64 (qq : Int)) := Lib.hid (In64.small (by omega))
        have HQN : Hid ((limbs qq).length ≤ 4096) := Lib.hid (Nat.le_trans (limbs_len_le (k := 1).2 (by have h3 : bp 1 = 1000000000 := (by decide); omega)) (by decide))
        have HPL : Hid ((limbs (b * qq)).length ≤ 4096) := Lib.hid (Nat.le_trans (limbs_len_mono HQL.out) HML.out)
        go_wp2_with (at_builtin; refine wpList_appAll fInt _ rfl _ _ 22 rfl wr.heap.size 3 i0 (.int .i64 0) 8 Tryz.underlying22 hi hz0 hz1 hz2 rfl (by decide) rfl (FlatOwn.lit1 (Nat.le_refl _) (by first | rfl | simp [fInt]) HOX.out) (More.refl _) rfl (Ty.at_more HU.out mC) (Lib.hid (by have := HRL.out; simp; omega)) (by decide) (Lib.hid (by simp)) ?_)
        intro v2 w2 hl2 hmw2
        have HF : Hid (tInts.rd (fun k => wr.heap.size ≤ k) w2 [v2] (x :: limbs r0)) := Lib.hid (Ty.fresh_rd hl2.fresh)
        have hb2 : More wr w2 := hmw2 _ rfl mC
        clear hl2 hmw2
        go_wp2_with (first | (go_at_call 79; refine (spec_l02TrimP _ _ (x :: limbs r0) m _ (Ty.rd_more HF.out mC) HNR.out HXL.out HXV.out).mono ?_; rintro e w3 ⟨u3, rfl, hb3, g3⟩; have G3 := Lib.hid g3; clear g3) | (go_at_call 159; refine (spec_l02Cmp _ _ m b _ (Ty.at_more (Ty.rd_at G3.out) mC) (Ty.at_more HV'.out mC) (by have := HML.out; omega) (by rw [← HN'.out]; omega)).mono ?_; rintro e w4 ⟨rfl, hb4⟩; rw [EC1.out]))
        all_goals go_wp2_with (first | (go_at_call 177; refine (spec_l02Digit _ _ m b _ (Ty.at_more (Ty.rd_at G3.out) mC) (Ty.at_more HV'.out mC) HML.out (by rw [← HN'.out]; omega) hb0 HMB.out).mono ?_; rintro e w5 ⟨rfl, hb5⟩; rw [HQ.out]; have G3S : Hid (tInts.rd (fun k => wr.heap.size ≤ k) (w5.setCell ⟨w.heap.size, p, none⟩ (.int .i64 (qq : Int))) [u3] (limbs m)) := Lib.hid (Ty.rd_set (Ty.rd_more G3.out mC) hg0); have HVS : Hid (tInts.at (w5.setCell ⟨w.heap.size, p, none⟩ (.int .i64 (qq : Int))) [.slice ao' NB cap'] (limbs b)) := Lib.hid (Ty.at_more HV'.out mC2); have hm5 : More wr w5 := mC; have q5 : w5.cell? ⟨w.heap.size, p, none⟩ = some (.int .i64 (xs.getD p 0)) := box_keep hm5 hg0 q0; have f5 : w5.frozen? ⟨w.heap.size, p, none⟩ = false := free_keep hm5 hg0 f0; have q6 : (w5.setCell ⟨w.heap.size, p, none⟩ (.int .i64 (qq : Int))).cell? ⟨w.heap.size, p, none⟩ = some (.int .i64 (qq : Int)) := World.cell?_setCell_same _ _ _ q5; have HRS : Hid (RowI w.heap.size 3 (w5.setCell ⟨w.heap.size, p, none⟩ (.int .i64 (qq : Int))) w.heap.size NN (xs.set p (qq : Int))) := Lib.hid ((HR.out.more hm5).set hpN HQI.out); clear hm5) | (go_at_call 130; refine (spec_NatOf qq _ (by omega)).mono ?_; rintro e w6 ⟨u6, rfl, hb6, g6⟩; have G6 := Lib.hid g6; clear g6) | (go_at_call 129; refine (spec_l02Mul _ _ b qq _ (Ty.at_more HVS.out mC) (Ty.at_more G6.out mC) (by rw [← HN'.out]; omega) HQN.out).mono ?_; rintro e w7 ⟨u7, rfl, hb7, g7⟩; have G6B := Lib.hid g7; clear g7) | (go_at_call 160; refine (spec_l02Sub _ _ m (b * qq) _ (Ty.at_more (Ty.rd_at G3S.out) mC) (Ty.at_more G6B.out mC) HML.out HPL.out HQL.out).mono ?_; rintro e w8 ⟨u8, rfl, hb8, g8⟩; have G7 := Lib.hid g8; clear g8))
        go_roundw
        case rel => exact ⟨p, _, m % b, _, by omega, by go_num, rfl, mC2, Lib.hid (HRS.out.more mC), Lib.hid (by rw [← HQM.out]; exact Ty.at_more G7.out mC), HI2⟩
        case measure => simp [intOf]; try omega
    · have hk0 : k = 0 := by omega
      subst hk0
      have HD := Lib.hid HI.out.done
      go_wp2_with (go_at_call 79; refine (spec_l02Trim _ xs (a / b) _ (Ty.at_more HR.out.at mC) (by rw [HI.out.len, ← HN.out]; omega) HD.out.1 HD.out.2.1).mono ?_; rintro e w9 ⟨u9, rfl, hb9, g9⟩; have G9 := Lib.hid g9; clear g9)
      go_ret2
      exact ⟨_, _, rfl, More.trans (More.refl w) mC, G9.out, by rw [← HD.out.2.2]; exact Ty.at_more HU.out mC⟩
end Go.Proofs.YtnbefpfijaimjaaGreatDoor
/- Natural numbers as limbs: whether a list is one; the greatest common divisor: the program's and the reference's. -/
namespace Go.Proofs.YtnbefpfijaimjaaGreatDoor
open Go.RowKit
theorem natOk_iff {l : List Int} : natOkB l = true ↔ l.length ≤ 60 ∧ Can l := by unfold natOkB; simp
theorem natOk_not {l : List Int} (h : ¬ (l.length ≤ 60 ∧ Can l)) : natOkB l = false := Bool.eq_false_iff.2 (fun k => h (natOk_iff.1 k))
def badL (x : Int) : Bool := !inR x 0 999999999
theorem badL_any {l : List Int} : l.any badL = false ↔ IsL l := by
  rw [List.any_eq_false]
  constructor
  · intro h d hd
    have := h d hd
    simp [badL, inR_iff] at this
    omega
  · intro h d hd
    have := h d hd
    simp [badL, inR_iff]
    omega
theorem natOk_long {l : List Int} (h : 60 < l.length) : natOkB l = false := by
  exact natOk_not (fun k => by omega)
theorem natOk_bad {l : List Int} (h : l.any badL = true) : natOkB l = false := by
  refine natOk_not (fun k => ?_)
  rw [badL_any.2 k.2.1] at h
  cases h
theorem natOk_nil : natOkB [] = true := by
  exact natOk_iff.2 ⟨by simp, Can.nil⟩
theorem natOk_last {l : List Int} (h : l.length ≤ 60) (hb : l.any badL = false) {x : Int} (hx : l[l.length - 1]? = some x) : natOkB l = !(x == 0) := by
  have hl := badL_any.1 hb
  rcases List.eq_nil_or_concat l with rfl | ⟨a, d, rfl⟩
  · simp at hx
  · simp at hx
    subst hx
    rw [List.concat_eq_append] at hl h ⊢
    by_cases hd : d = 0
    · subst hd
      simp only [beq_self_eq_true, Bool.not_true]
      exact natOk_not (fun k => ((can_iff_last hl).1 k.2) rfl)
    · have : (d == 0) = false := by simp [hd]
      rw [this]
      exact natOk_iff.2 ⟨h, (can_iff_last hl).2 hd⟩
theorem natOk_limbs {n : Nat} (h : (limbs n).length ≤ 60) : natOkB (limbs n) = true := by
  exact natOk_iff.2 ⟨h, limbs_can n⟩
theorem natOk_out {l : List Int} (h : natOkB l = true) : l.length ≤ 60 ∧ ∃ n, l = limbs n := by
  have := natOk_iff.1 h
  exact ⟨this.1, _, can_of this.2⟩
theorem impl_natOk1 (x : Int) (w : World) : Calls Tryz.prog 123 #[.int .i64 x] w fun e w' => e = .returned (.bool (badL x)) ∧ More w w' := by
  rcases Bool.eq_false_or_eq_true (inR x 0 999999999) with a | a
  all_goals
    have HA := Lib.hid a
    go_enter Tryz.func123, Tryz.ntmps123
    go_wp2_with (go_at_call 69; refine (impl_within _ _ _ _).mono ?_; rintro e w1 ⟨rfl, hb1⟩; rw [HA.out])
    go_ret
    exact ⟨ret_bool (by simp [badL, HA.out]), mC⟩
set_option maxHeartbeats 1600000 in
theorem indexFunc_natOk (v : Value) (l : List Int) (w : World)  (hv : tInts.at w [v] l) (hl : l.length ≤ 1048576) :
    Calls Tryz.prog 156 #[v, .func (.func 123) #[] #[]] w fun e w' => e = .returned (.int .i64 (idxI badL l)) ∧ More w w' := by
  obtain ⟨ao, cap, rfl⟩ := sl_len hv
  have HV := Lib.hid hv; clear hv
  skip
  skip
  skip
  obtain ⟨n, hn⟩ : ∃ n, n = l.length := ⟨_, rfl⟩
  rw [← hn] at HV hl ⊢
  have HN := Lib.hid hn; clear hn
  go_enter Tryz.func156, Tryz.ntmps156
  go_wp2_with fail
  go_loopw [8] (fun i wr => ∃ k : Nat, k ≤ n ∧ i = .int .i64 k ∧ More w wr ∧ Hid (∀ (i : Nat) y, i < k → l[i]? = some y → badL y = false)) (fun i _ => n - (intOf i).toNat)
  case atStart => exact ⟨0, Nat.zero_le _, rfl, More.refl _, Lib.hid (fun i y hi => by omega)⟩
  case round =>
    obtain ⟨k, hk, rfl, hm, HB⟩ := hrel
    by_cases hlt : k < n
    · obtain ⟨b, off, x, rfl, hblt, hx, ox, c0⟩ := int_el (Ty.at_more HV.out hm) (k := k) (by rw [← HN.out]; exact hlt)
      have HX := Lib.hid hx; clear hx ox
      rcases Bool.eq_false_or_eq_true (badL x) with hd | hd
      all_goals
        have HD := Lib.hid hd
        go_wp2_with fail
        refine (impl_natOk1 x _).mono ?_
        rintro e w1 ⟨rfl, hb1⟩
        rw [HD.out]
        go_wp2_with fail
      · go_ret
        exact ⟨ret_int (idxI_found HB.out HX.out HD.out).symm, mC⟩
      · go_roundw
        case rel => exact ⟨k + 1, by omega, by go_num, mC, Lib.hid (fun i z hi hz => by
          rcases Nat.lt_succ_iff_lt_or_eq.1 hi with h | rfl
          · exact HB.out i z h hz
          · rw [HX.out] at hz; cases hz; exact HD.out)⟩
        case measure => simp [intOf]; omega
    · go_wp2_with fail
      go_ret
      exact ⟨ret_int (idxI_none (fun i z hz => HB.out i z (by have := (List.getElem?_eq_some_iff.1 hz).1; have := HN.out; omega) hz)).symm, hm⟩
set_option maxHeartbeats 800000 in
theorem containsFunc_natOk (v : Value) (l : List Int) (w : World)  (hv : tInts.at w [v] l) (hl : l.length ≤ 1048576) :
    Calls Tryz.prog 122 #[v, .func (.func 123) #[] #[]] w fun e w' => e = .returned (.bool (l.any badL)) ∧ More w w' := by
  have C := Lib.hid (indexFunc_natOk v l w  hv hl)
  clear hv hl 
  go_enter Tryz.func122, Tryz.ntmps122
  go_wp2_with (go_at_call 156; refine C.out.mono ?_; rintro e w1 ⟨rfl, hb1⟩)
  go_ret
  exact ⟨ret_bool idxI_nonneg, mC⟩
set_option maxHeartbeats 1600000 in
theorem impl_NatOk (v : Value) (l : List Int) (w : World) (hv : tInts.at w [v] l) (hl : l.length ≤ 1048576) :
    Calls Tryz.prog 89 #[v] w fun e w' => e = .returned (.bool (natOkB l)) ∧ More w w' := by
  obtain ⟨ao, cap, rfl⟩ := sl_len hv
  have HV := Lib.hid hv; clear hv
  obtain ⟨n, hn⟩ : ∃ n, n = l.length := ⟨_, rfl⟩
  rw [← hn] at HV hl ⊢
  have HN := Lib.hid hn; clear hn
  by_cases h60 : 60 < n
  · have h60' : (60 : Int) < (n : Int) := by omega
    go_enter Tryz.func89, Tryz.ntmps89
    go_wp2_with fail
    go_ret
    exact ⟨ret_bool (natOk_long (by rw [← HN.out]; exact h60)).symm, mC⟩
  have h60' : ¬ (60 : Int) < (n : Int) := by omega
  rcases Bool.eq_false_or_eq_true (l.any badL) with hb | hb
  · have HB := Lib.hid hb; clear hb
    go_enter Tryz.func89, Tryz.ntmps89
    go_wp2_with (go_at_call 122; refine (containsFunc_natOk _ l _ (Ty.at_more HV.out mC) (by rw [← HN.out]; exact hl)).mono ?_; rintro e w1 ⟨rfl, hb1⟩; rw [HB.out])
    go_ret
    exact ⟨ret_bool (natOk_bad HB.out).symm, mC⟩
  have HB := Lib.hid hb; clear hb
  by_cases h0 : n = 0
  · subst h0
    go_enter Tryz.func89, Tryz.ntmps89
    go_wp2_with (go_at_call 122; refine (containsFunc_natOk _ l _ (Ty.at_more HV.out mC) (by rw [← HN.out]; exact hl)).mono ?_; rintro e w1 ⟨rfl, hb1⟩; rw [HB.out])
    go_ret
    exact ⟨ret_bool (by rw [List.eq_nil_of_length_eq_zero HN.out.symm, natOk_nil]), mC⟩
  · obtain ⟨p, hp⟩ : ∃ p, n = p + 1 := ⟨n - 1, by omega⟩
    have hwk : IntKind.i64.wrap ((n : Int) - 1) = (p : Int) := by rw [show (n : Int) - 1 = (p : Int) by omega]; exact IntWalk.i64_in _ (by omega)
    have hp0 : (0 : Int) ≤ (p : Int) := by omega
    have hp1 : (p : Int) < (n : Int) := by omega
    have h0' : ((n : Int) == 0) = false := by simp [h0]
    obtain ⟨b, off, x, rfl, hblt, hx, -, c0⟩ := int_el HV.out (k := p) (by rw [← HN.out]; omega)
    have HX : Hid (l[l.length - 1]? = some x) := Lib.hid (by rw [← HN.out, hp]; exact hx)
    clear hx
    have HP := Lib.hid hp; clear hp
    rcases Bool.eq_false_or_eq_true (x == 0) with hz | hz
    all_goals
      have HZ := Lib.hid hz
      go_enter Tryz.func89, Tryz.ntmps89
      go_wp2_with (go_at_call 122; refine (containsFunc_natOk _ l _ (Ty.at_more HV.out mC) (by rw [← HN.out]; exact hl)).mono ?_; rintro e w1 ⟨rfl, hb1⟩; rw [HB.out]; have c1 := box_keep hb1 hblt c0)
      go_ret
      exact ⟨ret_bool (by rw [natOk_last (by rw [← HN.out]; omega) HB.out HX.out]; simp [bne, HZ.out]), mC⟩
set_option maxHeartbeats 1600000 in
theorem spec_NatOk (v : Value) (l : List Int) (w : World) (hv : tInts.at w [v] l) (hl : l.length ≤ 1048576) :
    Calls Tryz.prog 112 #[v] w fun e w' => e = .returned (.bool (natOkB l)) ∧ More w w' := by
  obtain ⟨ao, cap, rfl⟩ := sl_len hv
  have HV := Lib.hid hv; clear hv
  obtain ⟨n, hn⟩ : ∃ n, n = l.length := ⟨_, rfl⟩
  rw [← hn] at HV hl ⊢
  have HN := Lib.hid hn; clear hn
  go_enter Tryz.func112, Tryz.ntmps112
  go_wp2_with fail
  go_loopw [7] (fun i wr => ∃ k : Nat, k ≤ n ∧ i = .int .i64 k ∧ More w wr ∧ Hid (∀ (i : Nat) y, i < k → l[i]? = some y → badL y = false)) (fun i _ => n - (intOf i).toNat)
  case atStart => exact ⟨0, Nat.zero_le _, rfl, More.refl _, Lib.hid (fun i y hi => by omega)⟩
  case round =>
    obtain ⟨k, hk, rfl, hm, HB⟩ := hrel
    by_cases hlt : k < n
    · obtain ⟨b, off, x, rfl, hblt, hx, ox, c0⟩ := int_el (Ty.at_more HV.out hm) (k := k) (by rw [← HN.out]; exact hlt)
      have HX := Lib.hid hx; clear hx ox
      rcases Bool.eq_false_or_eq_true (inR x 0 999999999) with hd | hd
      all_goals
        have HD := Lib.hid hd
        go_wp2_with (go_at_call 149; refine (spec_l01In _ _ _ _).mono ?_; rintro e w1 ⟨rfl, hb1⟩; rw [HD.out])
      · go_roundw
        case rel => exact ⟨k + 1, by omega, by go_num, mC, Lib.hid (fun i z hi hz => by
          rcases Nat.lt_succ_iff_lt_or_eq.1 hi with h | rfl
          · exact HB.out i z h hz
          · rw [HX.out] at hz; cases hz; simp [badL, HD.out])⟩
        case measure => simp [intOf]; omega
      · go_ret
        exact ⟨ret_bool (natOk_bad (List.any_eq_true.2 ⟨x, List.mem_of_getElem? HX.out, by simp [badL, HD.out]⟩)).symm, mC⟩
    · have hkn : k = n := by omega
      subst hkn
      have HA : Hid (l.any badL = false) := Lib.hid (by
        rw [List.any_eq_false]
        intro y hy
        obtain ⟨i, hi⟩ := List.mem_iff_getElem?.1 hy
        rw [HB.out i y (by have := (List.getElem?_eq_some_iff.1 hi).1; rw [HN.out]; exact this) hi]
        decide)
      by_cases h60 : 60 < k
      · have h60' : ¬ (k : Int) ≤ 60 := by omega
        go_wp2_with fail
        go_ret
        exact ⟨ret_bool (natOk_long (by rw [← HN.out]; exact h60)).symm, mC⟩
      have h60' : (k : Int) ≤ 60 := by omega
      by_cases h0 : k = 0
      · subst h0
        go_wp2_with fail
        go_ret
        exact ⟨ret_bool (by rw [List.eq_nil_of_length_eq_zero HN.out.symm, natOk_nil]), mC⟩
      · obtain ⟨p, hp⟩ : ∃ p, k = p + 1 := ⟨k - 1, by omega⟩
        have hwk : IntKind.i64.wrap ((k : Int) - 1) = (p : Int) := by rw [show (k : Int) - 1 = (p : Int) by omega]; exact IntWalk.i64_in _ (by omega)
        have hp0 : (0 : Int) ≤ (p : Int) := by omega
        have hp1 : (p : Int) < (k : Int) := by omega
        have h0' : ((k : Int) == 0) = false := by simp [h0]
        obtain ⟨b, off, x, rfl, hblt, hx, -, c0⟩ := int_el (Ty.at_more HV.out hm) (k := p) (by rw [← HN.out]; omega)
        have HX : Hid (l[l.length - 1]? = some x) := Lib.hid (by rw [← HN.out, hp]; exact hx)
        clear hx
        have HP := Lib.hid hp; clear hp
        rcases Bool.eq_false_or_eq_true (x == 0) with hz | hz
        all_goals
          have HZ := Lib.hid hz
          go_wp2_with fail
          go_ret
          exact ⟨ret_bool (by rw [natOk_last (by rw [← HN.out]; omega) HA.out HX.out]; simp [bne, HZ.out]), mC⟩
/-! ### What a slice of limbs is the number of -/
theorem ints_inj {w : World} {v : Value} {l m : List Int} (h : tInts.at w [v] l) (k : tInts.at w [v] m) : l = m := by
  obtain ⟨ao, cap, rfl⟩ := sl_len h
  obtain ⟨ao', cap', e⟩ := sl_len k
  simp at e
  obtain ⟨rfl, hl, rfl⟩ := e
  rw [hl] at h
  apply List.ext_getElem?
  intro i
  by_cases hi : i < m.length
  · obtain ⟨b, off, x, e1, _, hx, _, c0⟩ := int_el h (k := i) (by omega)
    obtain ⟨b', off', y, e2, _, hy, _, d0⟩ := int_el k (k := i) hi
    rw [e1] at e2
    simp at e2
    obtain ⟨rfl, rfl⟩ := e2
    rw [c0] at d0
    simp at d0
    rw [hx, hy, d0]
  · rw [List.getElem?_eq_none (by omega), List.getElem?_eq_none (by omega)]
open Classical in
noncomputable def natIn (w : World) (v : Value) : Nat := if h : ∃ y, tInts.at w [v] (limbs y) then Classical.choose h else 0
theorem natIn_eq {w : World} {v : Value} {y : Nat} (h : tInts.at w [v] (limbs y)) : natIn w v = y := by
  have he : ∃ y, tInts.at w [v] (limbs y) := ⟨y, h⟩
  unfold natIn
  rw [dif_pos he]
  exact limbs_inj (ints_inj (Classical.choose_spec he) h)
theorem limbs1_lt {y : Nat} (h : (limbs y).length ≤ 1) : y < 1000000000 := by
  have h2 := limbs_len_le (n := y) (k := 1).1 h
  have h3 : bp 1 = 1000000000 := by decide
  omega
set_option maxRecDepth 4000 in
set_option maxHeartbeats 6400000 in
theorem impl_natGcd (v v' : Value) (a b : Nat) (w : World) (hv : tInts.at w [v] (limbs a)) (hv' : tInts.at w [v'] (limbs b)) (hl : (limbs a).length ≤ 4000) (hm : (limbs b).length ≤ 4000) :
    Calls Tryz.prog 90 #[v, v'] w fun e w' => ∃ u, e = .returned u ∧ More w w' ∧ tInts.at w' [u] (limbs (Nat.gcd a b)) := by
  have HV := Lib.hid hv; have HV' := Lib.hid hv'; have HL := Lib.hid hl; have HM := Lib.hid hm; clear hv hv' hl hm
  go_enter Tryz.func90, Tryz.ntmps90
  go_wp2_with fail
  go_loopw [0, 1] (fun u u' wr => ∃ x y : Nat, Hid (tInts.at wr [u] (limbs x)) ∧ Hid (tInts.at wr [u'] (limbs y)) ∧ Hid (Nat.gcd x y = Nat.gcd a b) ∧ Hid ((limbs x).length ≤ 4000) ∧ Hid ((limbs y).length ≤ 4000) ∧ More w wr) (fun _ u' wr => natIn wr u')
  case atStart => exact ⟨a, b, HV, HV', Lib.hid rfl, HL, HM, mC⟩
  case round =>
    clear HV HV'
    obtain ⟨x, y, HX, HY, HG, HLX, HLY, hm⟩ := hrel
    obtain ⟨aoy, capy, rfl⟩ := sl_len HY.out
    obtain ⟨ny, hn⟩ : ∃ n, n = (limbs y).length := ⟨_, rfl⟩
    rw [← hn] at HY ⊢
    have HN := Lib.hid hn; clear hn
    by_cases h1 : 1 < ny
    · have h1' : (1 : Int) < (ny : Int) := by omega
      have hy0 : 0 < y := by
        rcases Nat.eq_zero_or_pos y with h | h
        · have := HN.out; rw [h, limbs_zero] at this; simp at this; omega
        · exact h
      go_wp2_with (go_at_call 124; refine (impl_natDiv _ _ x y _ (Ty.at_more HX.out mC) (Ty.at_more HY.out mC) HLX.out HLY.out hy0).mono ?_; rintro e w2 ⟨q, r, rfl, hb2, _, g2⟩; have G2 := Lib.hid g2; clear g2)
      go_roundw
      case rel => exact ⟨y, x % y, Lib.hid (Ty.at_more HY.out mC), Lib.hid (Ty.at_more G2.out mC), Lib.hid (by rw [← HG.out, Nat.gcd_comm y, ← Nat.gcd_rec, Nat.gcd_comm]), HLY, Lib.hid (Nat.le_trans (limbs_len_mono (Nat.le_of_lt (Nat.mod_lt x hy0))) HLY.out), mC⟩
      case measure =>
        rw [natIn_eq HY.out]
        rw [natIn_eq (Ty.at_more G2.out mC)]
        exact Nat.mod_lt x hy0
    · have h1' : ¬ (1 : Int) < (ny : Int) := by omega
      by_cases h0 : ny = 0
      · subst h0
        have hy : y = 0 := limbs_nil.1 (List.eq_nil_of_length_eq_zero HN.out.symm)
        subst hy
        go_wp2_with fail
        go_ret
        exact ⟨_, rfl, mC, by rw [← HG.out, Nat.gcd_zero_right]; exact Ty.at_more HX.out mC⟩
      · have hn1 : ny = 1 := by omega
        subst hn1
        have hyB : y < 1000000000 := limbs1_lt (by rw [← HN.out]; exact Nat.le_refl _)
        have hy0 : 0 < y := by
          rcases Nat.eq_zero_or_pos y with h | h
          · have := HN.out; rw [h, limbs_zero] at this; simp at this
          · exact h
        obtain ⟨px, offx, z, rfl, hbltx, hxx, -, ccx⟩ := int_el HY.out (k := 0) (by rw [← HN.out]; omega)
        have hzy : z = (y : Int) := by
          rw [limbs_one (by omega) hyB] at hxx
          simpa using hxx.symm
        subst hzy
        clear hxx
        rw [Nat.add_zero] at ccx
        go_wp2_with (go_at_call 125; refine (impl_natDivSmall _ x y _ (Ty.at_more HX.out mC) (Nat.le_trans HLX.out (by decide)) hy0 hyB).mono ?_; rintro e w2 ⟨u2, rfl, hb2, _⟩; have ccx2 := box_keep hb2 hbltx ccx)
        go_loopw [8, 9] (fun r n wz => ∃ r0 n0 : Nat, r = .int .i64 (r0 : Int) ∧ n = .int .i64 (n0 : Int) ∧ Hid (Nat.gcd n0 r0 = Nat.gcd a b) ∧ r0 < 1000000000 ∧ n0 < 1000000000 ∧ 0 < n0 ∧ More w wz) (fun r _ _ => (intOf r).toNat)
        case atStart => exact ⟨x % y, y, rfl, rfl, Lib.hid (by rw [← HG.out, Nat.gcd_comm y, ← Nat.gcd_rec, Nat.gcd_comm]), by have := Nat.mod_lt x hy0; omega, hyB, hy0, mC⟩
        case round =>
          clear HX HY HG ccx ccx2 hb2
          obtain ⟨r0, n0, rfl, rfl, HG, hr0, hn0, hp0, hm2⟩ := hrel
          by_cases hr : 0 < r0
          · have hr' : (0 : Int) < (r0 : Int) := by omega
            have hrz : ((r0 : Int) == 0) = false := by simp; omega
            have hrz2 : ¬ r0 = 0 := by omega
            have ht : (n0 : Int).tmod (r0 : Int) = ((n0 % r0 : Nat) : Int) := by rw [Int.tmod_eq_emod_of_nonneg (by omega)]; rfl
            have hmm : n0 % r0 < r0 := Nat.mod_lt _ hr
            have HG2 : Hid (Nat.gcd r0 (n0 % r0) = Nat.gcd a b) := Lib.hid (by rw [← HG.out, Nat.gcd_comm r0, ← Nat.gcd_rec, Nat.gcd_comm])
            obtain ⟨rr, hrr⟩ : ∃ rr, n0 % r0 = rr := ⟨_, rfl⟩
            rw [hrr] at ht hmm HG2
            clear hrr
            go_wp2_with fail
            go_region
            all_goals
              go_wp2_with fail
              go_roundw
              case rel => exact ⟨rr, r0, rfl, rfl, HG2, by omega, hr0, hr, mC⟩
              case measure => simp [intOf]; omega
          · have hr' : ¬ (0 : Int) < (r0 : Int) := by omega
            have hr0' : r0 = 0 := by omega
            subst hr0'
            have HE : Hid (Nat.gcd a b = n0) := Lib.hid (by rw [← HG.out, Nat.gcd_zero_right])
            go_wp2_with fail
            go_ret
            exact ⟨_, rfl, mC, by rw [HE.out, limbs_one (by omega) hn0]; exact FlatOwn.at (F := fInt) (FlatOwn.lit1 (B := 0) (Nat.zero_le _) rfl (In64.small (by omega)))⟩
set_option maxHeartbeats 1600000 in
theorem spec_l02Plain (x y : Nat) (w : World) (hx : x < 9223372036854775808) (hy : y < 9223372036854775808) :
    Calls Tryz.prog 151 #[.int .i64 (x : Int), .int .i64 (y : Int)] w fun e w' => ∃ u, e = .returned u ∧ More w w' ∧ tInts.at w' [u] (limbs (Nat.gcd x y)) := by
  have HX := Lib.hid hx; have HY := Lib.hid hy; clear hx hy
  go_enter Tryz.func151, Tryz.ntmps151
  go_wp2_with fail
  go_loopw [0, 1] (fun n r wr => ∃ n0 r0 : Nat, n = .int .i64 (n0 : Int) ∧ r = .int .i64 (r0 : Int) ∧ Hid (Nat.gcd n0 r0 = Nat.gcd x y) ∧ r0 < 9223372036854775808 ∧ n0 < 9223372036854775808 ∧ More w wr) (fun _ r _ => (intOf r).toNat)
  case atStart => exact ⟨x, y, rfl, rfl, Lib.hid rfl, HY.out, HX.out, mC⟩
  case round =>
    obtain ⟨n0, r0, rfl, rfl, HG, hr0, hn0, hm⟩ := hrel
    by_cases hr : 0 < r0
    · have hr' : (0 : Int) < (r0 : Int) := by omega
      have hrz : ((r0 : Int) == 0) = false := by simp; omega
      have hrz2 : ¬ r0 = 0 := by omega
      have ht : (n0 : Int).tmod (r0 : Int) = ((n0 % r0 : Nat) : Int) := by rw [Int.tmod_eq_emod_of_nonneg (by omega)]; rfl
      have hmm : n0 % r0 < r0 := Nat.mod_lt _ hr
      have HG2 : Hid (Nat.gcd r0 (n0 % r0) = Nat.gcd x y) := Lib.hid (by rw [← HG.out, Nat.gcd_comm r0, ← Nat.gcd_rec, Nat.gcd_comm])
      obtain ⟨rr, hrr⟩ : ∃ rr, n0 % r0 = rr := ⟨_, rfl⟩
      rw [hrr] at ht hmm HG2
      clear hrr
      go_wp2_with fail
      go_roundw
      case rel => exact ⟨r0, rr, rfl, rfl, HG2, by omega, hr0, mC⟩
      case measure => simp [intOf]; omega
    · have hr' : ¬ (0 : Int) < (r0 : Int) := by omega
      have hr0' : r0 = 0 := by omega
      subst hr0'
      have HE : Hid (Nat.gcd x y = n0) := Lib.hid (by rw [← HG.out, Nat.gcd_zero_right])
      go_wp2_with (go_at_call 130; refine (spec_NatOf n0 _ hn0).mono ?_; rintro e w1 ⟨u1, rfl, hb1, g1⟩; have G1 := Lib.hid g1; clear g1)
      go_ret
      exact ⟨_, rfl, mC, by rw [HE.out]; exact Ty.at_more G1.out mC⟩
end Go.Proofs.YtnbefpfijaimjaaGreatDoor
