/- slices.CompactFunc of fractions, over a row of the call's own. -/
import Derived.Test.YtnbefpfijaimjaaRwr
import Derived.Test.YtnbefpfijaimjaaEqFr
import Derived.Test.YtnbefpfijaimjaaGInt
import Derived.Deep.RegionHeld3
namespace Go.Proofs.Ytnbefpfijaimjaa
open Go.RowKit
abbrev QL := List (List Value × QR)
def ddB (R : QL) (m : Nat) : Bool := decide (m ≠ 0) && decide ((R[m]?).map Prod.snd = (R[m - 1]?).map Prod.snd)
def ddL (R : QL) : Nat → QL
  | 0 => []
  | m + 1 => if ddB R m then ddL R m else ddL R m ++ (R[m]?).toList
theorem ddL_dup {R : QL} {m : Nat} (h : ddB R m = true) : ddL R (m + 1) = ddL R m := if_pos h
theorem ddL_new {R : QL} {m : Nat} {p : List Value × QR} (h : ddB R m = false) (hp : R[m]? = some p) : ddL R (m + 1) = ddL R m ++ [p] := by
  show (if ddB R m then ddL R m else ddL R m ++ (R[m]?).toList) = _
  rw [h, hp]; rfl
theorem ddL_take {R : QL} {m : Nat} (h : ∀ j, j < m → ddB R j = false) (hm : m ≤ R.length) : ddL R m = R.take m := by
  induction m with
  | zero => simp [ddL]
  | succ m ih =>
    have hp : R[m]? = some R[m] := List.getElem?_eq_getElem (by omega)
    rw [ddL_new (h m (by omega)) hp, ih (fun j hj => h j (by omega)) (by omega), List.take_add_one, hp]; rfl
theorem ddB_at {R : QL} {k : Nat} {p q : List Value × QR} (hp : R[k]? = some p) (hq : R[k + 1]? = some q) : ddB R (k + 1) = decide (q.2 = p.2) := by
  unfold ddB
  rw [Nat.add_sub_cancel, hp, hq]
  simp
theorem RowR.el {g : Nat} {w : World} {R : QL} (h : RowR tRat g w R) {k : Nat} (hk : k < R.length) : ∃ (p : List Value × QR) (a1 : Option Addr) (n1 c1 : Nat) (a2 : Option Addr) (n2 c2 : Nat), R[k]? = some p ∧ p.1 = [.bool p.2.1.1, .slice a1 n1 c1, .slice a2 n2 c2] ∧
    tRat.at w [.bool p.2.1.1, .slice a1 n1 c1, .slice a2 n2 c2] p.2 ∧ w.cell? ⟨g, k * 3, none⟩ = some (.bool p.2.1.1) ∧ w.cell? ⟨g, k * 3 + 1, none⟩ = some (.slice a1 n1 c1) ∧ w.cell? ⟨g, k * 3 + 2, none⟩ = some (.slice a2 n2 c2) := by
  have hp : R[k]? = some R[k] := List.getElem?_eq_getElem hk
  have hr := h.rd k _ hp
  obtain ⟨a1, n1, c1, a2, n2, c2, e⟩ := sh_Rat (Ty.rd_at hr)
  have hc := h.cells k _ hp
  refine ⟨_, a1, n1, c1, a2, n2, c2, hp, e, by rw [← e]; exact Ty.rd_at hr, ?_, ?_, ?_⟩
  · exact hc 0 _ (by rw [e]; rfl)
  · exact hc 1 _ (by rw [e]; rfl)
  · exact hc 2 _ (by rw [e]; rfl)
theorem take_set_succ {α : Type} {l : List α} {k : Nat} {q : α} (hk : k < l.length) : (l.set k q).take (k + 1) = l.take k ++ [q] := by
  rw [List.take_add_one, List.getElem?_set_self hk, List.take_set, List.set_eq_of_length_le (by rw [List.length_take]; omega)]
  rfl
set_option maxRecDepth 8000 in
set_option maxHeartbeats 12800000 in
theorem compactFunc_rats (g cap : Nat) (R : QL) (w : World) (h : RowR tRat g w R) (hn : R.length ≤ cap) (hc : cap ≤ maxLen) (hl : R.length ≤ 1048576) (hw : ∀ p ∈ R, wRat p.2 ≤ 1048576) :
    Calls Try.prog 38 #[.slice (some ⟨g, 0, none⟩) R.length cap, .func (.func 39) #[] #[]] w fun e w' =>
      ∃ m, e = .returned (.slice (some ⟨g, 0, none⟩) m cap) ∧ Turns [g] w w' ∧ m ≤ cap ∧ ∃ R', RowR tRat g w' R' ∧ m ≤ R'.length ∧ R'.take m = ddL R R.length := by
  obtain ⟨n, hN⟩ : ∃ n, n = R.length := ⟨_, rfl⟩
  rw [← hN] at hn hl ⊢
  have H := Lib.hid h; have HN := Lib.hid hN; have HW := Lib.hid hw; have HC := Lib.hid hc
  clear h hN hw hc
  by_cases h2 : n < 2
  · have h2' : (n : Int) < 2 := by omega
    go_enter Try.func38, Try.ntmps38
    go_wp2_with fail
    go_ret
    refine ⟨n, rfl, tC, hn, R, H.out, Nat.le_of_eq HN.out, ?_⟩
    rw [HN.out, ddL_take (fun j hj => ?_) (Nat.le_refl _)]
    unfold ddB
    have := HN.out
    rw [decide_eq_false (by omega)]
    rfl
  have h2' : ¬ (n : Int) < 2 := by omega
  go_enter Try.func38, Try.ntmps38
  go_wp2_with fail
  go_loopw [5] (fun i wr => ∃ k : Nat, k < n ∧ i = .int .i64 ((k : Int) + 1) ∧ More w wr ∧ Hid (∀ j, j < k + 1 → ddB R j = false)) (fun i _ => n + 1 - (intOf i).toNat)
  case atStart => exact ⟨0, by omega, rfl, mC, Lib.hid (fun j hj => by
      obtain rfl : j = 0 := (by omega)
      rfl)⟩
  case round =>
    obtain ⟨k, hk, rfl, hm, HB⟩ := hrel
    obtain ⟨wo, rfl⟩ : ∃ wo : World, wo = wr := ⟨_, rfl⟩
    by_cases hlt : k + 1 < n
    · have hlt' : (k : Int) + 1 < (n : Int) := by omega
      have hlt0 : (k : Int) < (n : Int) := by omega
      obtain ⟨p, a1, n1, c1, a2, n2, c2, hx, ep, hat, p0, p1, p2⟩ := RowR.el (H.out.more hm) (k := k) (by rw [← HN.out]; omega)
      obtain ⟨q, sa1, sn1, sc1, sa2, sn2, sc2, hy, eq, hat', q0, q1, q2⟩ := RowR.el (H.out.more hm) (k := k + 1) (by rw [← HN.out]; omega)
      have hgl := (H.out.more hm).lt
      have hi0 : (0 : Int) ≤ (k : Int) := by omega
      have hi2 : (0 : Int) ≤ (k : Int) + 1 := by omega
      have g6 : IntKind.i64.wrap (↑k + 1 - 1) = (↑k : Int) := by rw [IntKind.wrap_i64]; omega
      have g13 : IntKind.i64.wrap (↑k : Int) = ↑k := by rw [IntKind.wrap_i64]; omega
      have g14 : IntKind.i64.wrap (↑k + 1 : Int) = ↑k + 1 := by rw [IntKind.wrap_i64]; omega
      have HX := Lib.hid hx; have HY := Lib.hid hy; have HA := Lib.hid hat; have HA' := Lib.hid hat'
      have KX := Lib.hid (HW.out p (List.mem_of_getElem? hx)); have KY := Lib.hid (HW.out q (List.mem_of_getElem? hy))
      have HD := Lib.hid (ddB_at hx hy)
      clear hx hy hat hat' ep eq
      have C0 : ∀ w', More wo w' → w'.cell? ⟨g, k * 3, none⟩ = some (.bool p.2.1.1) := fun w' h => ((bcell h).1 _ _ hgl).trans p0
      have C1 : ∀ w', More wo w' → w'.cell? ⟨g, k * 3 + 1, none⟩ = some (.slice a1 n1 c1) := fun w' h => ((bcell h).1 _ _ hgl).trans p1
      have C2 : ∀ w', More wo w' → w'.cell? ⟨g, k * 3 + 2, none⟩ = some (.slice a2 n2 c2) := fun w' h => ((bcell h).1 _ _ hgl).trans p2
      have D0 : ∀ w', More wo w' → w'.cell? ⟨g, (k + 1) * 3, none⟩ = some (.bool q.2.1.1) := fun w' h => ((bcell h).1 _ _ hgl).trans q0
      have D1 : ∀ w', More wo w' → w'.cell? ⟨g, (k + 1) * 3 + 1, none⟩ = some (.slice sa1 sn1 sc1) := fun w' h => ((bcell h).1 _ _ hgl).trans q1
      have D2 : ∀ w', More wo w' → w'.cell? ⟨g, (k + 1) * 3 + 2, none⟩ = some (.slice sa2 sn2 sc2) := fun w' h => ((bcell h).1 _ _ hgl).trans q2
      rcases Bool.eq_false_or_eq_true (decide (q.2 = p.2)) with hd | hd
      rotate_left
      · have HE := Lib.hid hd; clear hd
        go_wp2_with fail
        go_region_held3 (fun w' => More wo w') (first | exact More.refl _ | exact mC) (first | (go_at_call 39; (with_reducible refine (impl_RatEqual _ _ q.2 p.2 _ (Ty.at_more HA'.out mC) (Ty.at_more HA.out mC) KY.out KX.out).mono ?_); rintro e w2 ⟨rfl, hb2⟩; rw [HE.out]))
        all_goals
          go_wp2_with fail
          go_roundw
          case rel => exact ⟨k + 1, by omega, by go_num, mC, Lib.hid (fun j hj => by
            rcases Nat.lt_succ_iff_lt_or_eq.1 hj with h9 | rfl
            · exact HB.out j h9
            · rw [HD.out, HE.out])⟩
          case measure => simp [intOf]; omega
      · have HE := Lib.hid hd; clear hd
        go_wp2_with fail
        go_region_held3 (fun w' => More wo w') (first | exact More.refl _ | exact mC) (first | (go_at_call 39; (with_reducible refine (impl_RatEqual _ _ q.2 p.2 _ (Ty.at_more HA'.out mC) (Ty.at_more HA.out mC) KY.out KX.out).mono ?_); rintro e w2 ⟨rfl, hb2⟩; rw [HE.out]))
        all_goals
          have hcn : ¬ (cap = k + 1) := by omega
          go_wp2_with fail
          clear C0 C1 C2 D0 D1 D2
          have HG : Hid (RowR tRat g w2 R) := Lib.hid (H.out.more (hm.trans (show More wo w2 from mC)))
          have HT2 : Hid (Turns [g] w w2) := Lib.hid (More.turns (hm.trans (show More wo w2 from mC)) _)
          clear hb2
          obtain ⟨r, hr⟩ : ∃ r, r = n - (k + 1) := ⟨_, rfl⟩
          rw [← hr]
          have hr1 : k + 1 + r ≤ n := by omega
          have hr2 : n ≤ k + 1 + r := by omega
          clear hr
          go_loopw [5, 7] (fun v5 v7 wr => ∃ j : Nat, k + 2 + j ≤ n ∧ v7 = .int .i64 ((j : Int) + 1) ∧ ∃ K : Nat, v5 = .int .i64 (K : Int) ∧ K ≤ k + 1 + j ∧ Hid (Turns [g] w wr) ∧ Hid (∃ R', RowR tRat g wr R' ∧ R'.length = n ∧ K = (ddL R (k + 2 + j)).length ∧ R'.take K = ddL R (k + 2 + j) ∧ (∀ i, k + 1 + j ≤ i → R'[i]? = R[i]?) ∧ ∀ p ∈ R', p ∈ R)) (fun _ v7 _ => n - (intOf v7).toNat)
          case atStart => exact ⟨0, by omega, rfl, k + 1, by simp, by omega, HT2, Lib.hid (by
            have e1 : ddL R (k + 2) = R.take (k + 1) := by rw [ddL_dup (by rw [HD.out, HE.out]), ddL_take HB.out (by rw [← HN.out]; omega)]
            refine ⟨R, HG.out, HN.out.symm, ?_, by rw [e1], fun i _ => rfl, fun p hp => hp⟩
            rw [e1, List.length_take, ← HN.out]
            omega)⟩
          case round =>
            obtain ⟨j, hj, rfl, K, rfl, hK, HT, HR⟩ := hrel
            obtain ⟨R', hrow, hlen, hKe, htk, hrest, hmem⟩ := HR.out
            have hj0 : (0 : Int) ≤ (j : Int) := by omega
            have hj2 : (0 : Int) ≤ (j : Int) + 1 := by omega
            have g26 : IntKind.i64.wrap (↑j + 1 - 1) = (↑j : Int) := by rw [IntKind.wrap_i64]; omega
            have g23 : IntKind.i64.wrap (↑j : Int) = ↑j := by rw [IntKind.wrap_i64]; omega
            have g24 : IntKind.i64.wrap (↑j + 1 : Int) = ↑j + 1 := by rw [IntKind.wrap_i64]; omega
            by_cases hjr : j + 1 < r
            · have hjr' : (j : Int) + 1 < (r : Int) := by omega
              have hjr0 : (j : Int) < (r : Int) := by omega
              obtain ⟨p', b1, m1, d1, b2, m2, d2, hx, ep, hat, p0, p1, p2⟩ := RowR.el hrow (k := k + 1 + j) (by omega)
              obtain ⟨q', e1, f1, h1, e2, f2, h2, hy, eq', hat', q0, q1, q2⟩ := RowR.el hrow (k := k + 2 + j) (by omega)
              have hxR : R[k + 1 + j]? = some p' := by rw [← hrest _ (Nat.le_refl _)]; exact hx
              have hyR : R[k + 1 + j + 1]? = some q' := by rw [← hrest _ (by omega), ← hy]; congr 1; omega
              have HD2 := Lib.hid (ddB_at hxR hyR)
              have KX2 := Lib.hid (HW.out p' (List.mem_of_getElem? hxR)); have KY2 := Lib.hid (HW.out q' (List.mem_of_getElem? hyR))
              have HA2 := Lib.hid hat; have HA2' := Lib.hid hat'
              have hgl2 := hrow.lt
              rw [show (k + 1 + j) * 3 = (k + 1) * 3 + j * 3 by omega] at p0 p1 p2
              rw [show (k + 2 + j) * 3 = (k + 1) * 3 + (j + 1) * 3 by omega] at q0 q1 q2
              have C0 : ∀ w', More wr w' → w'.cell? ⟨g, (k + 1) * 3 + j * 3, none⟩ = some (.bool p'.2.1.1) := fun w' h => ((bcell h).1 _ _ hgl2).trans p0
              have C1 : ∀ w', More wr w' → w'.cell? ⟨g, (k + 1) * 3 + j * 3 + 1, none⟩ = some (.slice b1 m1 d1) := fun w' h => ((bcell h).1 _ _ hgl2).trans p1
              have C2 : ∀ w', More wr w' → w'.cell? ⟨g, (k + 1) * 3 + j * 3 + 2, none⟩ = some (.slice b2 m2 d2) := fun w' h => ((bcell h).1 _ _ hgl2).trans p2
              have D0 : ∀ w', More wr w' → w'.cell? ⟨g, (k + 1) * 3 + (j + 1) * 3, none⟩ = some (.bool q'.2.1.1) := fun w' h => ((bcell h).1 _ _ hgl2).trans q0
              have D1 : ∀ w', More wr w' → w'.cell? ⟨g, (k + 1) * 3 + (j + 1) * 3 + 1, none⟩ = some (.slice e1 f1 h1) := fun w' h => ((bcell h).1 _ _ hgl2).trans q1
              have D2 : ∀ w', More wr w' → w'.cell? ⟨g, (k + 1) * 3 + (j + 1) * 3 + 2, none⟩ = some (.slice e2 f2 h2) := fun w' h => ((bcell h).1 _ _ hgl2).trans q2
              have HHX := Lib.hid hx; have HHY := Lib.hid hy; have HEQ := Lib.hid eq'; have HYR := Lib.hid hyR
              have HROW := Lib.hid (And.intro hrow (And.intro hlen (And.intro hKe (And.intro htk (And.intro hrest hmem)))))
              clear hx hy ep eq' hat hat' hxR hyR hrow hlen hKe htk hrest hmem HR
              rcases Bool.eq_false_or_eq_true (decide (q'.2 = p'.2)) with hd | hd
              · have HE2 := Lib.hid hd; clear hd
                go_wp2_with fail
                go_region_held3 (fun w' => More wr w') (first | exact More.refl _ | exact mC) (first | (go_at_call 39; (with_reducible refine (impl_RatEqual _ _ q'.2 p'.2 _ (Ty.at_more HA2'.out mC) (Ty.at_more HA2.out mC) KY2.out KX2.out).mono ?_); rintro e w3 ⟨rfl, hb3⟩; rw [HE2.out]))
                all_goals
                  go_wp2_with fail
                  go_roundw
                  case rel => exact ⟨j + 1, by omega, by go_num, K, rfl, by omega, Lib.hid (HT.out.trans (More.turns (show More wr _ from mC) _)), Lib.hid (by
                    obtain ⟨r1, r2, r3, r4, r5, r6⟩ := HROW.out
                    have e1 : ddL R (k + 2 + (j + 1)) = ddL R (k + 2 + j) := by
                      rw [show k + 2 + (j + 1) = (k + 1 + j + 1) + 1 by omega, ddL_dup (by rw [HD2.out, HE2.out]), show k + 1 + j + 1 = k + 2 + j by omega]
                    exact ⟨R', r1.more mC, r2, by rw [e1]; exact r3, by rw [e1]; exact r4, fun i hi => r5 i (by omega), r6⟩)⟩
                  case measure => simp [intOf]; omega
              · have HE2 := Lib.hid hd; clear hd
                have hKi : (0 : Int) ≤ (K : Int) := by omega
                have hKn : (K : Int) < (n : Int) := by omega
                have gK : IntKind.i64.wrap (↑K + 1 : Int) = ↑K + 1 := by rw [IntKind.wrap_i64]; omega
                have gKK : IntKind.i64.wrap (↑K : Int) = ↑K := by rw [IntKind.wrap_i64]; omega
                go_wp2_with fail
                go_region_held3 (fun w' => More wr w') (first | exact More.refl _ | exact mC) (first | (go_at_call 39; (with_reducible refine (impl_RatEqual _ _ q'.2 p'.2 _ (Ty.at_more HA2'.out mC) (Ty.at_more HA2.out mC) KY2.out KX2.out).mono ?_); rintro e w3 ⟨rfl, hb3⟩; rw [HE2.out]))
                all_goals
                  have R3 := HROW.out.1.more (show More wr w3 from mC)
                  have x0 := D0 w3 mC; have x1 := D1 w3 mC; have x2 := D2 w3 mC
                  clear C0 C1 C2 D0 D1 D2
                  obtain ⟨pk, l1, l2, l3, l4, l5, l6, -, -, -, y0, y1, y2⟩ := RowR.el R3 (k := K) (by rw [HROW.out.2.1]; omega)
                  have yf := R3.free
                  have HR3 := Lib.hid R3
                  clear R3
                  go_wp2_with fail
                  go_roundw
                  case rel => exact ⟨j + 1, by omega, by go_num, K + 1, by go_num, by omega, Lib.hid ((HT.out.trans (More.turns (show More wr w3 from mC) _)).trans (((((Turns.refl [g] w3).setCell (.inl (by simp)) _).setCell (.inl (by simp)) _).setCell (.inl (by simp)) _))), Lib.hid (by
                    obtain ⟨r1, r2, r3, r4, r5, r6⟩ := HROW.out
                    have e1 : ddL R (k + 2 + (j + 1)) = ddL R (k + 2 + j) ++ [q'] := by
                      rw [show k + 2 + (j + 1) = (k + 1 + j + 1) + 1 by omega, ddL_new (by rw [HD2.out, HE2.out]) HYR.out, show k + 1 + j + 1 = k + 2 + j by omega]
                    have hKl : K < R'.length := by omega
                    have hst := HR3.out.store hKl (List.mem_of_getElem? HHY.out)
                    rw [HEQ.out] at hst
                    refine ⟨R'.set K q', hst, by rw [List.length_set]; exact r2, by rw [e1, List.length_append, ← r3]; rfl, by rw [e1, take_set_succ hKl, r4], fun i hi => ?_, fun p hp => ?_⟩
                    · rw [List.getElem?_set_ne (by omega)]
                      exact r5 i (by omega)
                    · rcases List.mem_or_eq_of_mem_set hp with h9 | h9
                      · exact r6 p h9
                      · subst h9; exact List.mem_of_getElem? HYR.out)⟩
                  case measure => simp [intOf]; omega
            · have hjr' : ¬ (j : Int) + 1 < (r : Int) := by omega
              have hKi : (0 : Int) ≤ (K : Int) := by omega
              have hKn : (K : Int) ≤ (n : Int) := by omega
              have hKc : (K : Int) ≤ (cap : Int) := by omega
              have hcK : ¬ (cap = K) := by omega
              have HROW := Lib.hid (And.intro hrow (And.intro hlen (And.intro hKe (And.intro htk (And.intro hrest hmem)))))
              clear hrow hlen hKe htk hrest hmem HR
              have hKn' : K < n := by omega
              obtain ⟨w4, hcl, r4, t4⟩ := clear_row (P := Try.prog) (ty := 0) Try.underlying24 Try.zeroValue38 rfl (by decide) (c := cap - K) HROW.out.1 HROW.out.2.1 hKn'
              have hcl : (Builtin.clear_ #[24] 0 #[.slice (some ⟨g, K * 3, none⟩) (n - K) (cap - K)]).run Try.prog wr = .ok (.tuple #[]) w4 := hcl
              have R4 := Lib.hid r4; have T4 := Lib.hid t4
              clear r4 t4
              go_wp2_with fail
              (try rw [hcl])
              (try go_wp2_with fail)
              go_ret
              obtain ⟨r1, r2, r3, r5, r6, r7⟩ := HROW.out
              have em : k + 2 + j = n := by omega
              rw [em] at r5
              exact ⟨K, rfl, HT.out.trans T4.out, by omega, R'.take K, R4.out, by rw [List.length_take]; omega, by rw [List.take_take, Nat.min_self]; exact r5⟩
    · have hlt' : ¬ (k : Int) + 1 < (n : Int) := by omega
      go_wp2_with fail
      go_ret
      obtain rfl : n = k + 1 := by omega
      exact ⟨k + 1, rfl, More.turns hm _, hn, R, H.out.more hm, Nat.le_of_eq HN.out, (ddL_take HB.out (Nat.le_of_eq HN.out)).symm⟩
end Go.Proofs.Ytnbefpfijaimjaa
