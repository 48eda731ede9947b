/- Contracts of IsPolygon: the reference's and the program's give the same answer for every list of vectors. -/
import Derived.Test.YtnndjbomfcacfaaTurn
import Derived.Test.YtnndjbomfcacfaaGVec
namespace Go.Proofs.Ytnndjbomfcacfaa
open Go.RowKit

def okS (l : List QV) (i j : Nat) : Bool := isV (l.getD j (0, 0)) && (decide (j = i) || decide (j = (i + 1) % l.length) || decide (0 < turnF (l.getD i (0, 0)) (l.getD ((i + 1) % l.length) (0, 0)) (l.getD j (0, 0))))
def rowS (l : List QV) (i m : Nat) : Prop := ∀ j, j < m → okS l i j = true
def PolyP (l : List QV) : Prop := (3 ≤ l.length ∧ l.length ≤ 16) ∧ ∀ i, i < l.length → rowS l i l.length
open Classical in
noncomputable def isPoly (l : List QV) : Bool := decide (PolyP l)
theorem isPoly_iff {l : List QV} : isPoly l = true ↔ PolyP l := by simp [isPoly]
theorem isPoly_not {l : List QV} : isPoly l = false ↔ ¬ PolyP l := by simp [isPoly]
theorem poly_bad {l : List QV} {i j : Nat} (hi : i < l.length) (hj : j < l.length) (h : okS l i j = false) : isPoly l = false := by
  rw [isPoly_not]
  intro hp
  have := hp.2 i hi j hj
  rw [h] at this
  cases this
theorem getD_of {l : List QV} {k : Nat} {x : QV} (h : l[k]? = some x) : l.getD k (0, 0) = x := by rw [List.getD_eq_getElem?_getD, h]; rfl

theorem rowS_next {l : List QV} {i j : Nat} (h : rowS l i j) (h' : okS l i j = true) : rowS l i (j + 1) := by
  intro j' hj
  rcases Nat.lt_succ_iff_lt_or_eq.1 hj with h1 | rfl
  · exact h j' h1
  · exact h'

set_option maxHeartbeats 1600000 in
theorem spec_IsPolygon (v : Value) (l : List QV) (w : World) (hv : tVecs.at w [v] l) (hl : l.length ≤ 1048576) :
    Calls Try.prog 68 #[v] w fun e w' => e = .returned (.bool (isPoly l)) ∧ More w w' := by
  obtain ⟨ao, cap, rfl⟩ := sl_len hv
  have HV := Lib.hid hv; clear hv
  obtain ⟨n, hn⟩ : ∃ n, n = l.length := ⟨_, rfl⟩
  rw [← hn] at HV hl ⊢
  have HN := Lib.hid hn; clear hn
  rcases Bool.eq_false_or_eq_true (inR (n : Int) 3 16) with h3 | h3
  · obtain ⟨n3, n16⟩ := inR_iff.1 h3
    have H3 := Lib.hid h3
    go_enter Try.func68, Try.ntmps68
    go_wp2_with (go_at_call 67; refine (spec_l01In _ _ _ _).mono ?_; rintro e w1 ⟨rfl, hb1⟩)
    clear h3
    go_loopw [16] (fun i wr => ∃ k : Nat, k ≤ n ∧ i = .int .i64 k ∧ More w wr ∧ Hid (∀ i', i' < k → rowS l i' n)) (fun i _ => n - (intOf i).toNat)
    case atStart => exact ⟨0, Nat.zero_le _, rfl, mC, Lib.hid (fun i' hi => by omega)⟩
    case round =>
      obtain ⟨k, hk, rfl, hm, HA⟩ := hrel
      obtain ⟨wo, rfl⟩ : ∃ wo : World, wo = wr := ⟨_, rfl⟩
      by_cases hlt : k < n
      · obtain ⟨b, off, ax, ay, rfl, hblt, hx, -, -, a0, a1⟩ := vec_el (Ty.at_more HV.out hm) (k := k) (by rw [← HN.out]; exact hlt)
        have HX := Lib.hid hx; clear hx
        obtain ⟨m, em⟩ : ∃ m, m = (k + 1) % n := ⟨_, rfl⟩
        have hmlt : m < n := by rw [em]; exact Nat.mod_lt _ (by omega)
        have EM := Lib.hid em
        have emi : ((k : Int) + 1) % (n : Int) = (m : Int) := by rw [em]; simp
        clear em
        obtain ⟨b', off', bx, bY, e', hblt', hx', -, -, b0, b1⟩ := vec_el (Ty.at_more HV.out hm) (k := m) (by rw [← HN.out]; exact hmlt)
        cases e'
        have HX' := Lib.hid hx'; clear hx'
        go_wp2_with fail
        rw [emi]
        go_loopw [30] (fun i wr => ∃ j : Nat, j ≤ n ∧ i = .int .i64 j ∧ More wo wr ∧ wo.heap.size + 1 < wr.heap.size ∧ wr.cell? ⟨wo.heap.size, 0, none⟩ = some (.int .i64 ax) ∧ wr.cell? ⟨wo.heap.size, 1, none⟩ = some (.int .i64 ay) ∧ wr.cell? ⟨wo.heap.size + 1, 0, none⟩ = some (.int .i64 bx) ∧ wr.cell? ⟨wo.heap.size + 1, 1, none⟩ = some (.int .i64 bY) ∧ Hid (rowS l k j)) (fun i _ => n - (intOf i).toNat)
        case atStart => exact ⟨0, Nat.zero_le _, rfl, mC, by simp, by simp, by simp, by simp, by simp, Lib.hid (fun i' hi => by omega)⟩
        case round =>
          obtain ⟨j, hj, rfl, hmr, hsz, x0, x1, y0, y1, HW⟩ := hrel
          by_cases hjn : j < n
          · obtain ⟨b'', off'', px, py, e'', hblt'', hx'', -, -, p0, p1⟩ := vec_el (Ty.at_more HV.out (hm.trans hmr)) (k := j) (by rw [← HN.out]; exact hjn)
            cases e''
            have q0 : wo.heap.size < wr.heap.size := by omega
            have q1 : wo.heap.size + 1 < wr.heap.size := hsz
            have q2 : wo.heap.size < wr.heap.size + 1 := by omega
            have q3 : wo.heap.size + 1 < wr.heap.size + 1 := by omega
            have q4 : wo.heap.size ≠ wr.heap.size := by omega
            have q5 : wo.heap.size + 1 ≠ wr.heap.size := by omega
            have HP := Lib.hid hx''; clear hx''
            have hok : okS l k j = (isV (px, py) && (decide (j = k) || decide (j = m) || decide (0 < turnF (ax, ay) (bx, bY) (px, py)))) := by
              rw [okS, getD_of HP.out, getD_of HX.out, ← HN.out, ← EM.out, getD_of HX'.out]
            have HOK := Lib.hid hok; clear hok
            rcases Bool.eq_false_or_eq_true (isV (px, py)) with hp | hp
            · by_cases hjk : j = k
              · subst hjk
                go_wp2_with (first | (go_at_call 74; refine (spec_IsValidVec _ _ _).mono ?_; rintro e w1 ⟨rfl, hb1⟩; obtain ⟨hc1, hf1⟩ := bcell hb1; have hs0 : wo.heap.size < w1.heap.size := (by have := hb1.size; (try simp at this); first | done | omega); have hs1 : wo.heap.size + 1 < w1.heap.size := (by have := hb1.size; (try simp at this); first | done | omega); have hs2 : wr.heap.size < w1.heap.size := (by have := hb1.size; (try simp at this); first | done | omega)) | (go_at_call 75; refine (spec_Turn _ _ _ _ _ _ _).mono ?_; rintro e w1 ⟨rfl, hb1⟩; obtain ⟨hc1, hf1⟩ := bcell hb1; have hs0 : wo.heap.size < w1.heap.size := (by have := hb1.size; (try simp at this); first | done | omega); have hs1 : wo.heap.size + 1 < w1.heap.size := (by have := hb1.size; (try simp at this); first | done | omega); have hs2 : wr.heap.size < w1.heap.size := (by have := hb1.size; (try simp at this); first | done | omega)))
                go_roundw
                case rel => exact ⟨j + 1, by omega, by go_num, mC, Nat.lt_of_lt_of_le hsz (More.size (w := wr) mC), box_keep (w0 := wr) mC q0 x0, box_keep (w0 := wr) mC q0 x1, box_keep (w0 := wr) mC q1 y0, box_keep (w0 := wr) mC q1 y1, Lib.hid (rowS_next HW.out (by rw [HOK.out, hp]; simp))⟩
                case measure => simp [intOf]; omega
              · have hjk1 : ((j : Int) != (k : Int)) = true := by simp; omega
                have hjk2 : (j != k) = true := by simp; omega
                by_cases hjm : j = m
                · subst hjm
                  go_wp2_with (first | (go_at_call 74; refine (spec_IsValidVec _ _ _).mono ?_; rintro e w1 ⟨rfl, hb1⟩; obtain ⟨hc1, hf1⟩ := bcell hb1; have hs0 : wo.heap.size < w1.heap.size := (by have := hb1.size; (try simp at this); first | done | omega); have hs1 : wo.heap.size + 1 < w1.heap.size := (by have := hb1.size; (try simp at this); first | done | omega); have hs2 : wr.heap.size < w1.heap.size := (by have := hb1.size; (try simp at this); first | done | omega)) | (go_at_call 75; refine (spec_Turn _ _ _ _ _ _ _).mono ?_; rintro e w1 ⟨rfl, hb1⟩; obtain ⟨hc1, hf1⟩ := bcell hb1; have hs0 : wo.heap.size < w1.heap.size := (by have := hb1.size; (try simp at this); first | done | omega); have hs1 : wo.heap.size + 1 < w1.heap.size := (by have := hb1.size; (try simp at this); first | done | omega); have hs2 : wr.heap.size < w1.heap.size := (by have := hb1.size; (try simp at this); first | done | omega)))
                  go_roundw
                  case rel => exact ⟨j + 1, by omega, by go_num, mC, Nat.lt_of_lt_of_le hsz (More.size (w := wr) mC), box_keep (w0 := wr) mC q0 x0, box_keep (w0 := wr) mC q0 x1, box_keep (w0 := wr) mC q1 y0, box_keep (w0 := wr) mC q1 y1, Lib.hid (rowS_next HW.out (by rw [HOK.out, hp]; simp))⟩
                  case measure => simp [intOf]; omega
                · have hjm1 : ((j : Int) != (m : Int)) = true := by simp; omega
                  have hjm2 : (j != m) = true := by simp; omega
                  by_cases ht : 0 < turnF (ax, ay) (bx, bY) (px, py)
                  · go_wp2_with (first | (go_at_call 74; refine (spec_IsValidVec _ _ _).mono ?_; rintro e w1 ⟨rfl, hb1⟩; obtain ⟨hc1, hf1⟩ := bcell hb1; have hs0 : wo.heap.size < w1.heap.size := (by have := hb1.size; (try simp at this); first | done | omega); have hs1 : wo.heap.size + 1 < w1.heap.size := (by have := hb1.size; (try simp at this); first | done | omega); have hs2 : wr.heap.size < w1.heap.size := (by have := hb1.size; (try simp at this); first | done | omega)) | (go_at_call 75; refine (spec_Turn _ _ _ _ _ _ _).mono ?_; rintro e w1 ⟨rfl, hb1⟩; obtain ⟨hc1, hf1⟩ := bcell hb1; have hs0 : wo.heap.size < w1.heap.size := (by have := hb1.size; (try simp at this); first | done | omega); have hs1 : wo.heap.size + 1 < w1.heap.size := (by have := hb1.size; (try simp at this); first | done | omega); have hs2 : wr.heap.size < w1.heap.size := (by have := hb1.size; (try simp at this); first | done | omega)))
                    go_roundw
                    case rel => exact ⟨j + 1, by omega, by go_num, mC, Nat.lt_of_lt_of_le hsz (More.size (w := wr) mC), box_keep (w0 := wr) mC q0 x0, box_keep (w0 := wr) mC q0 x1, box_keep (w0 := wr) mC q1 y0, box_keep (w0 := wr) mC q1 y1, Lib.hid (rowS_next HW.out (by rw [HOK.out, hp]; simp [ht]))⟩
                    case measure => simp [intOf]; omega
                  · go_wp2_with (first | (go_at_call 74; refine (spec_IsValidVec _ _ _).mono ?_; rintro e w1 ⟨rfl, hb1⟩; obtain ⟨hc1, hf1⟩ := bcell hb1; have hs0 : wo.heap.size < w1.heap.size := (by have := hb1.size; (try simp at this); first | done | omega); have hs1 : wo.heap.size + 1 < w1.heap.size := (by have := hb1.size; (try simp at this); first | done | omega); have hs2 : wr.heap.size < w1.heap.size := (by have := hb1.size; (try simp at this); first | done | omega)) | (go_at_call 75; refine (spec_Turn _ _ _ _ _ _ _).mono ?_; rintro e w1 ⟨rfl, hb1⟩; obtain ⟨hc1, hf1⟩ := bcell hb1; have hs0 : wo.heap.size < w1.heap.size := (by have := hb1.size; (try simp at this); first | done | omega); have hs1 : wo.heap.size + 1 < w1.heap.size := (by have := hb1.size; (try simp at this); first | done | omega); have hs2 : wr.heap.size < w1.heap.size := (by have := hb1.size; (try simp at this); first | done | omega)))
                    go_ret
                    exact ⟨ret_bool (poly_bad (i := k) (j := j) (by rw [← HN.out]; omega) (by rw [← HN.out]; omega) (by rw [HOK.out, hp]; simp [hjk, hjm, ht])).symm, mC⟩
            · go_wp2_with (first | (go_at_call 74; refine (spec_IsValidVec _ _ _).mono ?_; rintro e w1 ⟨rfl, hb1⟩; obtain ⟨hc1, hf1⟩ := bcell hb1; have hs0 : wo.heap.size < w1.heap.size := (by have := hb1.size; (try simp at this); first | done | omega); have hs1 : wo.heap.size + 1 < w1.heap.size := (by have := hb1.size; (try simp at this); first | done | omega); have hs2 : wr.heap.size < w1.heap.size := (by have := hb1.size; (try simp at this); first | done | omega)) | (go_at_call 75; refine (spec_Turn _ _ _ _ _ _ _).mono ?_; rintro e w1 ⟨rfl, hb1⟩; obtain ⟨hc1, hf1⟩ := bcell hb1; have hs0 : wo.heap.size < w1.heap.size := (by have := hb1.size; (try simp at this); first | done | omega); have hs1 : wo.heap.size + 1 < w1.heap.size := (by have := hb1.size; (try simp at this); first | done | omega); have hs2 : wr.heap.size < w1.heap.size := (by have := hb1.size; (try simp at this); first | done | omega)))
              go_ret
              exact ⟨ret_bool (poly_bad (i := k) (j := j) (by rw [← HN.out]; omega) (by rw [← HN.out]; omega) (by rw [HOK.out, hp]; simp)).symm, mC⟩
          · go_wp2_with fail
            obtain rfl : j = n := by omega
            go_roundw
            case rel => exact ⟨k + 1, by omega, by go_num, mC, Lib.hid (fun i' hi => by
              rcases Nat.lt_succ_iff_lt_or_eq.1 hi with h | rfl
              · exact HA.out i' h
              · exact HW.out)⟩
            case measure => simp [intOf]; omega
      · go_wp2_with fail
        go_ret
        exact ⟨ret_bool (isPoly_iff.2 ⟨by rw [← HN.out]; omega, fun i' hi => by rw [← HN.out] at hi ⊢; exact HA.out i' (by omega)⟩).symm, hm⟩
  · have H3 := Lib.hid h3
    go_enter Try.func68, Try.ntmps68
    go_wp2_with (go_at_call 67; refine (spec_l01In _ _ _ _).mono ?_; rintro e w1 ⟨rfl, hb1⟩)
    go_ret
    exact ⟨ret_bool (isPoly_not.2 (fun hp => inR_not.1 H3.out (by have := hp.1; rw [← HN.out] at this; omega))).symm, hb1⟩
theorem poly_inv {l : List QV} (h : l.all isV = false) : isPoly l = false := by
  rw [isPoly_not]
  intro hp
  rw [List.all_eq_false] at h
  obtain ⟨x, hx, hv⟩ := h
  obtain ⟨j, hj, rfl⟩ := List.getElem_of_mem hx
  have h1 := hp.2 0 (by have := hp.1; omega) j hj
  rw [okS, Bool.and_eq_true, getD_of (List.getElem?_eq_getElem hj)] at h1
  exact hv h1.1

set_option maxHeartbeats 1600000 in
theorem impl_IsPolygon (v : Value) (l : List QV) (w : World) (hv : tVecs.at w [v] l) (hl : l.length ≤ 1048576) :
    Calls Try.prog 72 #[v] w fun e w' => e = .returned (.bool (isPoly l)) ∧ More w w' := by
  have HV0 := Lib.hid hv
  obtain ⟨ao, cap, rfl⟩ := sl_len hv
  have HV := Lib.hid hv; clear hv
  obtain ⟨n, hn⟩ : ∃ n, n = l.length := ⟨_, rfl⟩
  rw [← hn] at HV HV0 hl ⊢
  have HN := Lib.hid hn; clear hn
  rcases Bool.eq_false_or_eq_true (inR (n : Int) 3 16) with h3 | h3
  · obtain ⟨n3, n16⟩ := inR_iff.1 h3
    have H3 := Lib.hid h3
    rcases Bool.eq_false_or_eq_true (l.all isV) with hall | hall
    · have HB := Lib.hid hall
      go_enter Try.func72, Try.ntmps72
      go_wp2_with (first | (go_at_call 71; refine (impl_within _ _ _ _).mono ?_; rintro e w1 ⟨rfl, hb1⟩) | (go_at_call 77; refine (impl_areVecs _ l _ (Ty.at_more HV0.out hb1) (by rw [← HN.out]; omega)).mono ?_; rintro e w2 ⟨rfl, hb2⟩))
      clear h3 hall
      go_loopw [21] (fun i wr => ∃ k : Nat, k ≤ n ∧ i = .int .i64 k ∧ More w wr ∧ Hid (∀ i', i' < k → rowS l i' n)) (fun i _ => n - (intOf i).toNat)
      case atStart => exact ⟨0, Nat.zero_le _, rfl, mC, Lib.hid (fun i' hi => by omega)⟩
      case round =>
        obtain ⟨k, hk, rfl, hm, HA⟩ := hrel
        obtain ⟨wo, rfl⟩ : ∃ wo : World, wo = wr := ⟨_, rfl⟩
        by_cases hlt : k < n
        · obtain ⟨b, off, ax, ay, rfl, hblt, hx, -, -, a0, a1⟩ := vec_el (Ty.at_more HV.out hm) (k := k) (by rw [← HN.out]; exact hlt)
          have HX := Lib.hid hx; clear hx
          obtain ⟨m, em⟩ : ∃ m, m = (k + 1) % n := ⟨_, rfl⟩
          have hmlt : m < n := by rw [em]; exact Nat.mod_lt _ (by omega)
          have EM := Lib.hid em
          have emi : ((k : Int) + 1) % (n : Int) = (m : Int) := by rw [em]; simp
          clear em
          obtain ⟨b', off', bx, bY, e', hblt', hx', -, -, b0, b1⟩ := vec_el (Ty.at_more HV.out hm) (k := m) (by rw [← HN.out]; exact hmlt)
          cases e'
          have HX' := Lib.hid hx'; clear hx'
          go_wp2_with fail
          rw [emi]
          go_loopw [35] (fun i wr => ∃ j : Nat, j ≤ n ∧ i = .int .i64 j ∧ More wo wr ∧ wo.heap.size + 1 < wr.heap.size ∧ wr.cell? ⟨wo.heap.size, 0, none⟩ = some (.int .i64 ax) ∧ wr.cell? ⟨wo.heap.size, 1, none⟩ = some (.int .i64 ay) ∧ wr.cell? ⟨wo.heap.size + 1, 0, none⟩ = some (.int .i64 bx) ∧ wr.cell? ⟨wo.heap.size + 1, 1, none⟩ = some (.int .i64 bY) ∧ Hid (rowS l k j)) (fun i _ => n - (intOf i).toNat)
          case atStart => exact ⟨0, Nat.zero_le _, rfl, mC, by simp, by simp, by simp, by simp, by simp, Lib.hid (fun i' hi => by omega)⟩
          case round =>
            obtain ⟨j, hj, rfl, hmr, hsz, x0, x1, y0, y1, HW⟩ := hrel
            by_cases hjn : j < n
            · obtain ⟨b'', off'', px, py, e'', hblt'', hx'', -, -, p0, p1⟩ := vec_el (Ty.at_more HV.out (hm.trans hmr)) (k := j) (by rw [← HN.out]; exact hjn)
              cases e''
              have q0 : wo.heap.size < wr.heap.size := by omega
              have q1 : wo.heap.size + 1 < wr.heap.size := hsz
              have q2 : wo.heap.size < wr.heap.size + 1 := by omega
              have q3 : wo.heap.size + 1 < wr.heap.size + 1 := by omega
              have q4 : wo.heap.size ≠ wr.heap.size := by omega
              have q5 : wo.heap.size + 1 ≠ wr.heap.size := by omega
              have HP := Lib.hid hx''; clear hx''
              have hok : okS l k j = (isV (px, py) && (decide (j = k) || decide (j = m) || decide (0 < turnF (ax, ay) (bx, bY) (px, py)))) := by
                rw [okS, getD_of HP.out, getD_of HX.out, ← HN.out, ← EM.out, getD_of HX'.out]
              have HOK := Lib.hid hok; clear hok
              have hp : isV (px, py) = true := List.all_eq_true.1 HB.out _ (List.mem_of_getElem? HP.out)
              have hpa : isV (ax, ay) = true := List.all_eq_true.1 HB.out _ (List.mem_of_getElem? HX.out)
              have hpb : isV (bx, bY) = true := List.all_eq_true.1 HB.out _ (List.mem_of_getElem? HX'.out)
              have htn : turnF (ax, ay) (bx, bY) (px, py) = tn (ax, ay) (bx, bY) (px, py) := by rw [turnF, if_pos (by simp [hp, hpa, hpb])]
              have HTN := Lib.hid htn; have HPA := Lib.hid hpa; have HPB := Lib.hid hpb; have HPP := Lib.hid hp
              clear hp hpa hpb htn
              by_cases hjk : j = k
              · subst hjk
                go_wp2_with (first | (go_at_call 78; refine (impl_turn _ _ _ _ _ _ _ HPA.out HPB.out HPP.out).mono ?_; rintro e w1 ⟨rfl, hb1⟩; obtain ⟨hc1, hf1⟩ := bcell hb1; have hs0 : wo.heap.size < w1.heap.size := (by have := hb1.size; (try simp at this); first | done | omega); have hs1 : wo.heap.size + 1 < w1.heap.size := (by have := hb1.size; (try simp at this); first | done | omega); have hs2 : wr.heap.size < w1.heap.size := (by have := hb1.size; (try simp at this); first | done | omega)))
                go_roundw
                case rel => exact ⟨j + 1, by omega, by go_num, mC, Nat.lt_of_lt_of_le hsz (More.size (w := wr) mC), box_keep (w0 := wr) mC q0 x0, box_keep (w0 := wr) mC q0 x1, box_keep (w0 := wr) mC q1 y0, box_keep (w0 := wr) mC q1 y1, Lib.hid (rowS_next HW.out (by rw [HOK.out, HPP.out]; simp))⟩
                case measure => simp [intOf]; omega
              · have hjk1 : ((j : Int) != (k : Int)) = true := by simp; omega
                have hjk2 : (j != k) = true := by simp; omega
                by_cases hjm : j = m
                · subst hjm
                  go_wp2_with (first | (go_at_call 78; refine (impl_turn _ _ _ _ _ _ _ HPA.out HPB.out HPP.out).mono ?_; rintro e w1 ⟨rfl, hb1⟩; obtain ⟨hc1, hf1⟩ := bcell hb1; have hs0 : wo.heap.size < w1.heap.size := (by have := hb1.size; (try simp at this); first | done | omega); have hs1 : wo.heap.size + 1 < w1.heap.size := (by have := hb1.size; (try simp at this); first | done | omega); have hs2 : wr.heap.size < w1.heap.size := (by have := hb1.size; (try simp at this); first | done | omega)))
                  go_roundw
                  case rel => exact ⟨j + 1, by omega, by go_num, mC, Nat.lt_of_lt_of_le hsz (More.size (w := wr) mC), box_keep (w0 := wr) mC q0 x0, box_keep (w0 := wr) mC q0 x1, box_keep (w0 := wr) mC q1 y0, box_keep (w0 := wr) mC q1 y1, Lib.hid (rowS_next HW.out (by rw [HOK.out, HPP.out]; simp))⟩
                  case measure => simp [intOf]; omega
                · have hjm1 : ((j : Int) != (m : Int)) = true := by simp; omega
                  have hjm2 : (j != m) = true := by simp; omega
                  by_cases ht : 0 < tn (ax, ay) (bx, bY) (px, py)
                  · go_wp2_with (first | (go_at_call 78; refine (impl_turn _ _ _ _ _ _ _ HPA.out HPB.out HPP.out).mono ?_; rintro e w1 ⟨rfl, hb1⟩; obtain ⟨hc1, hf1⟩ := bcell hb1; have hs0 : wo.heap.size < w1.heap.size := (by have := hb1.size; (try simp at this); first | done | omega); have hs1 : wo.heap.size + 1 < w1.heap.size := (by have := hb1.size; (try simp at this); first | done | omega); have hs2 : wr.heap.size < w1.heap.size := (by have := hb1.size; (try simp at this); first | done | omega)))
                    go_roundw
                    case rel => exact ⟨j + 1, by omega, by go_num, mC, Nat.lt_of_lt_of_le hsz (More.size (w := wr) mC), box_keep (w0 := wr) mC q0 x0, box_keep (w0 := wr) mC q0 x1, box_keep (w0 := wr) mC q1 y0, box_keep (w0 := wr) mC q1 y1, Lib.hid (rowS_next HW.out (by rw [HOK.out, HPP.out, HTN.out]; simp [ht]))⟩
                    case measure => simp [intOf]; omega
                  · go_wp2_with (first | (go_at_call 78; refine (impl_turn _ _ _ _ _ _ _ HPA.out HPB.out HPP.out).mono ?_; rintro e w1 ⟨rfl, hb1⟩; obtain ⟨hc1, hf1⟩ := bcell hb1; have hs0 : wo.heap.size < w1.heap.size := (by have := hb1.size; (try simp at this); first | done | omega); have hs1 : wo.heap.size + 1 < w1.heap.size := (by have := hb1.size; (try simp at this); first | done | omega); have hs2 : wr.heap.size < w1.heap.size := (by have := hb1.size; (try simp at this); first | done | omega)))
                    go_ret
                    exact ⟨ret_bool (poly_bad (i := k) (j := j) (by rw [← HN.out]; omega) (by rw [← HN.out]; omega) (by rw [HOK.out, HPP.out, HTN.out]; simp [hjk, hjm, ht])).symm, mC⟩
            · go_wp2_with fail
              obtain rfl : j = n := by omega
              go_roundw
              case rel => exact ⟨k + 1, by omega, by go_num, mC, Lib.hid (fun i' hi => by
                rcases Nat.lt_succ_iff_lt_or_eq.1 hi with h | rfl
                · exact HA.out i' h
                · exact HW.out)⟩
              case measure => simp [intOf]; omega
        · go_wp2_with fail
          go_ret
          exact ⟨ret_bool (isPoly_iff.2 ⟨by rw [← HN.out]; omega, fun i' hi => by rw [← HN.out] at hi ⊢; exact HA.out i' (by omega)⟩).symm, hm⟩
    · have HB := Lib.hid hall
      go_enter Try.func72, Try.ntmps72
      go_wp2_with (first | (go_at_call 71; refine (impl_within _ _ _ _).mono ?_; rintro e w1 ⟨rfl, hb1⟩) | (go_at_call 77; refine (impl_areVecs _ l _ (Ty.at_more HV0.out hb1) (by rw [← HN.out]; omega)).mono ?_; rintro e w2 ⟨rfl, hb2⟩))
      go_ret
      exact ⟨ret_bool (poly_inv HB.out).symm, mC⟩
  · have H3 := Lib.hid h3
    go_enter Try.func72, Try.ntmps72
    go_wp2_with (go_at_call 71; refine (impl_within _ _ _ _).mono ?_; rintro e w1 ⟨rfl, hb1⟩)
    go_ret
    exact ⟨ret_bool (isPoly_not.2 (fun hp => inR_not.1 H3.out (by have := hp.1; rw [← HN.out] at this; omega))).symm, hb1⟩
end Go.Proofs.Ytnndjbomfcacfaa
