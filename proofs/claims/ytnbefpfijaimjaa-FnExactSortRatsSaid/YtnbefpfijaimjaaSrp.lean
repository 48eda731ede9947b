/- What sorting and compacting fractions gives: the one strictly ascending list of their values. Plain facts; it speaks of no program. -/
import Derived.Test.YtnbefpfijaimjaaCpf
import Derived.Test.YtnbefpfijaimjaaFrk
import Derived.Sort.Statements
namespace Go.Proofs.Ytnbefpfijaimjaa
open Go.RowKit
/-- Below, as the program compares. -/
noncomputable def rLt (x y : QR) : Bool := decide (rCmp x y < 0)
theorem ratOk_den {x : QR} (h : ratOkB x = true) : 0 < (frOf x).2 := by
  rw [ratOk_frOf] at h
  exact Nat.pos_of_ne_zero (by simpa using h)
theorem rCmp_ok {x y : QR} (hx : ratOkB x = true) (hy : ratOkB y = true) : rCmp x y = cmpI ((frOf x).1 * (frOf y).2) ((frOf y).1 * (frOf x).2) := by
  have h1 := ratOk_den hx
  have h2 := ratOk_den hy
  unfold rCmp frCmp
  rw [if_neg (by omega)]
theorem cmpI_negS {a b : Int} : cmpI a b < 0 ↔ a < b := by
  unfold cmpI
  split
  · simp [*]
  · split <;> simp <;> omega
theorem cmpI_zeroS {a b : Int} : cmpI a b = 0 ↔ a = b := by
  unfold cmpI
  split
  · simp; omega
  · split <;> simp <;> omega
theorem rLt_ok {x y : QR} (hx : ratOkB x = true) (hy : ratOkB y = true) : rLt x y = true ↔ (frOf x).1 * (frOf y).2 < (frOf y).1 * (frOf x).2 := by
  unfold rLt
  rw [decide_eq_true_iff, rCmp_ok hx hy, cmpI_negS]
theorem rCmp_eq {x y : QR} (hx : ratOkB x = true) (hy : ratOkB y = true) : rCmp x y = 0 ↔ x = y := by
  rw [rCmp_ok hx hy, cmpI_zeroS]
  constructor
  · intro h
    have h1 := ratOk_den hx
    have h2 := ratOk_den hy
    have g1 := (frOf_vd x).good (by omega)
    have g2 := (frOf_vd y).good (by omega)
    have := frK_eq (by omega) (by omega) h
    rw [frMk_good g1, frMk_good g2] at this
    rw [← enc_frOf hx, ← enc_frOf hy, this]
  · rintro rfl; rfl
theorem rLt_irrefl (x : QR) (hx : ratOkB x = true) : rLt x x = false := by
  rw [Bool.eq_false_iff]
  intro h
  have := (rLt_ok hx hx).1 h
  omega
theorem mul_lt_cancel {a b c : Int} (hc : 0 < c) (h : a * c < b * c) : a < b := by
  rcases Int.lt_or_le a b with h1 | h1
  · exact h1
  · have := Int.mul_le_mul_of_nonneg_right h1 (Int.le_of_lt hc)
    omega
theorem rLt_trans {x y z : QR} (hx : ratOkB x = true) (hy : ratOkB y = true) (hz : ratOkB z = true) (h : rLt x y = true) (h' : rLt y z = true) : rLt x z = true := by
  have k1 := (rLt_ok hx hy).1 h
  have k2 := (rLt_ok hy hz).1 h'
  rw [rLt_ok hx hz]
  have d1 : (0 : Int) < (frOf x).2 := Int.ofNat_lt.2 (ratOk_den hx)
  have d2 : (0 : Int) < (frOf y).2 := Int.ofNat_lt.2 (ratOk_den hy)
  have d3 : (0 : Int) < (frOf z).2 := Int.ofNat_lt.2 (ratOk_den hz)
  have m1 := Int.mul_lt_mul_of_pos_right k1 d3
  have m2 := Int.mul_lt_mul_of_pos_right k2 d1
  refine mul_lt_cancel d2 ?_
  calc (frOf x).1 * (frOf z).2 * (frOf y).2 = (frOf x).1 * (frOf y).2 * (frOf z).2 := by ac_rfl
    _ < (frOf y).1 * (frOf x).2 * (frOf z).2 := m1
    _ = (frOf y).1 * (frOf z).2 * (frOf x).2 := by ac_rfl
    _ < (frOf z).1 * (frOf y).2 * (frOf x).2 := m2
    _ = (frOf z).1 * (frOf x).2 * (frOf y).2 := by ac_rfl
theorem rLt_total {x y : QR} (hx : ratOkB x = true) (hy : ratOkB y = true) (h : rLt x y = false) (h' : rLt y x = false) : x = y := by
  rw [← rCmp_eq hx hy, rCmp_ok hx hy, cmpI_zeroS]
  have k1 := mt (rLt_ok hx hy).2 (by simp [h])
  have k2 := mt (rLt_ok hy hx).2 (by simp [h'])
  omega
theorem rLt_ntrans {x y z : QR} (hx : ratOkB x = true) (hy : ratOkB y = true) (hz : ratOkB z = true) (h : rLt x y = false) (h' : rLt y z = false) : rLt x z = false := by
  rw [Bool.eq_false_iff]
  intro k
  cases h1 : rLt y x with
  | true => rw [rLt_trans hy hx hz h1 k] at h'; cases h'
  | false => rw [rLt_total hx hy h h1, h'] at k; cases k
theorem rLt_asymm {x y : QR} (hx : ratOkB x = true) (hy : ratOkB y = true) (h : rLt x y = true) : rLt y x = false := by
  rw [Bool.eq_false_iff]
  intro k
  have := rLt_trans hx hy hx h k
  rw [rLt_irrefl x hx] at this
  cases this
/-! ### Strictly ascending lists -/
def Asc (l : List QR) : Prop := (∀ x ∈ l, ratOkB x = true) ∧ l.Pairwise (fun x y => rLt x y = true)
theorem asc_unique : ∀ {l m : List QR}, Asc l → Asc m → (∀ x, x ∈ l ↔ x ∈ m) → l = m
  | [], [], _, _, _ => rfl
  | [], b :: m, _, _, h => absurd ((h b).2 (List.mem_cons_self ..)) (by simp)
  | a :: l, [], _, _, h => absurd ((h a).1 (List.mem_cons_self ..)) (by simp)
  | a :: l, b :: m, ⟨h1, h2⟩, ⟨h3, h4⟩, h => by
    rw [List.pairwise_cons] at h2 h4
    have ka := h1 a (List.mem_cons_self ..)
    have kb := h3 b (List.mem_cons_self ..)
    have e : a = b := by
      rcases List.mem_cons.1 ((h a).1 (List.mem_cons_self ..)) with e | e
      · exact e
      · rcases List.mem_cons.1 ((h b).2 (List.mem_cons_self ..)) with e' | e'
        · exact e'.symm
        · have := rLt_asymm ka kb (h2.1 b e')
          rw [h4.1 a e] at this
          cases this
    subst e
    congr 1
    refine asc_unique ⟨fun x hx => h1 x (List.mem_cons_of_mem _ hx), h2.2⟩ ⟨fun x hx => h3 x (List.mem_cons_of_mem _ hx), h4.2⟩ fun x => ⟨fun hx => ?_, fun hx => ?_⟩
    · rcases List.mem_cons.1 ((h x).1 (List.mem_cons_of_mem _ hx)) with e | e
      · subst e
        have := h2.1 x hx
        rw [rLt_irrefl x ka] at this
        cases this
      · exact e
    · rcases List.mem_cons.1 ((h x).2 (List.mem_cons_of_mem _ hx)) with e | e
      · subst e
        have := h4.1 x hx
        rw [rLt_irrefl x ka] at this
        cases this
      · exact e
/-! ### The reference's insertion -/
noncomputable def sAt (l : List QR) (r : QR) : Nat := l.findIdx (fun x => !rLt x r)
noncomputable def sPut (l : List QR) (r : QR) : List QR := if sAt l r < l.length ∧ (l[sAt l r]?).map (fun x => rCmp x r) = some 0 then l else l.take (sAt l r) ++ [r] ++ l.drop (sAt l r)
noncomputable def sRats (l : List QR) : List QR := if l.all ratOkB then l.foldl sPut [] else []
theorem sAt_le (l : List QR) (r : QR) : sAt l r ≤ l.length := List.findIdx_le_length
theorem sAt_of {l : List QR} {r : QR} {i : Nat} (hi : i ≤ l.length) (h : ∀ j x, j < i → l[j]? = some x → rLt x r = true) (hn : ∀ x, l[i]? = some x → rLt x r = false) : sAt l r = i := by
  rcases Nat.lt_trichotomy (sAt l r) i with h1 | h1 | h1
  · have hl : sAt l r < l.length := by omega
    have := List.findIdx_getElem (w := (show l.findIdx (fun x => !rLt x r) < l.length from hl))
    have h2 := h (sAt l r) _ h1 (List.getElem?_eq_getElem hl)
    simp only [sAt] at h2
    rw [h2] at this
    simp at this
  · exact h1
  · have hl : i < l.length := by have := sAt_le l r; omega
    have h2 := hn _ (List.getElem?_eq_getElem hl)
    have := List.not_of_lt_findIdx (show i < l.findIdx (fun x => !rLt x r) from h1)
    rw [h2] at this
    simp at this
theorem sAt_lt {l : List QR} {r : QR} {j : Nat} {x : QR} (hj : j < sAt l r) (h : l[j]? = some x) : rLt x r = true := by
  have := List.not_of_lt_findIdx (show j < l.findIdx (fun x => !rLt x r) from hj)
  have hl : j < l.length := (List.getElem?_eq_some_iff.1 h).1
  rw [List.getElem?_eq_getElem hl] at h
  cases h
  simpa using this
theorem sAt_ge {l : List QR} {r : QR} {x : QR} (h : l[sAt l r]? = some x) : rLt x r = false := by
  have hl : sAt l r < l.length := (List.getElem?_eq_some_iff.1 h).1
  have := List.findIdx_getElem (w := (show l.findIdx (fun x => !rLt x r) < l.length from hl))
  rw [List.getElem?_eq_getElem hl] at h
  simp only [Option.some.injEq] at h
  simp only [sAt] at h
  rw [h] at this
  simpa using this
theorem sPut_asc {l : List QR} {r : QR} (hl : Asc l) (hr : ratOkB r = true) : Asc (sPut l r) ∧ ∀ x, x ∈ sPut l r ↔ x ∈ l ∨ x = r := by
  obtain ⟨h1, h2⟩ := hl
  unfold sPut
  split
  · rename_i h
    refine ⟨⟨h1, h2⟩, fun x => ⟨fun hx => .inl hx, fun hx => ?_⟩⟩
    rcases hx with hx | rfl
    · exact hx
    · have e := h.2
      rw [List.getElem?_eq_getElem h.1] at e
      simp only [Option.map_some, Option.some.injEq] at e
      have hm := List.getElem_mem h.1
      rw [rCmp_eq (h1 _ hm) hr] at e
      rw [← e]
      exact hm
  · rename_i h
    have hm : ∀ x, x ∈ l ↔ x ∈ l.take (sAt l r) ∨ x ∈ l.drop (sAt l r) := fun x => by
      conv => lhs; rw [← List.take_append_drop (sAt l r) l]
      rw [List.mem_append]
    have lo : ∀ x ∈ l.take (sAt l r), rLt x r = true := fun x hx => by
      obtain ⟨j, hj⟩ := List.mem_iff_getElem?.1 hx
      rw [List.getElem?_take] at hj
      by_cases hjs : j < sAt l r
      · rw [if_pos hjs] at hj; exact sAt_lt hjs hj
      · rw [if_neg hjs] at hj; cases hj
    have hi : ∀ x ∈ l.drop (sAt l r), rLt r x = true := fun x hx => by
      have hs : sAt l r < l.length := by
        rcases Nat.lt_or_ge (sAt l r) l.length with h3 | h3
        · exact h3
        · rw [List.drop_eq_nil_of_le h3] at hx; simp at hx
      have hp := List.getElem?_eq_getElem hs
      have k0 := sAt_ge hp
      have hok := h1 _ (List.getElem_mem hs)
      have k1 : rLt r l[sAt l r] = true := by
        cases hk : rLt r l[sAt l r] with
        | true => rfl
        | false =>
          refine absurd ⟨hs, ?_⟩ h
          rw [hp]
          simp only [Option.map_some, Option.some.injEq]
          rw [rCmp_eq hok hr]
          exact rLt_total hok hr k0 hk
      rw [List.drop_eq_getElem_cons hs] at hx
      rcases List.mem_cons.1 hx with rfl | hx
      · exact k1
      · have h5 : (l.drop (sAt l r)).Pairwise (fun x y => rLt x y = true) := h2.sublist (List.drop_sublist _ _)
        rw [List.drop_eq_getElem_cons hs, List.pairwise_cons] at h5
        exact rLt_trans hr hok (h1 x (List.mem_of_mem_drop hx)) k1 (h5.1 x hx)
    refine ⟨⟨fun x hx => ?_, ?_⟩, fun x => ?_⟩
    · rw [List.mem_append, List.mem_append] at hx
      rcases hx with (hx | hx) | hx
      · exact h1 x (List.mem_of_mem_take hx)
      · rw [List.mem_singleton] at hx; subst hx; exact hr
      · exact h1 x (List.mem_of_mem_drop hx)
    · rw [List.append_assoc, List.pairwise_append]
      refine ⟨h2.sublist (List.take_sublist _ _), ?_, fun x hx y hy => ?_⟩
      · rw [List.singleton_append, List.pairwise_cons]
        exact ⟨hi, h2.sublist (List.drop_sublist _ _)⟩
      · rw [List.singleton_append] at hy
        rcases List.mem_cons.1 hy with rfl | hy
        · exact lo x hx
        · exact rLt_trans (h1 x (List.mem_of_mem_take hx)) hr (h1 y (List.mem_of_mem_drop hy)) (lo x hx) (hi y hy)
    · rw [List.mem_append, List.mem_append, List.mem_singleton, hm x]
      constructor
      · rintro ((h3 | h3) | h3)
        · exact .inl (.inl h3)
        · exact .inr h3
        · exact .inl (.inr h3)
      · rintro ((h3 | h3) | h3)
        · exact .inl (.inl h3)
        · exact .inr h3
        · exact .inl (.inr h3)
theorem fold_asc : ∀ {l acc : List QR}, Asc acc → (∀ x ∈ l, ratOkB x = true) → Asc (l.foldl sPut acc) ∧ ∀ x, x ∈ l.foldl sPut acc ↔ x ∈ acc ∨ x ∈ l
  | [], acc, h, _ => ⟨h, fun x => by simp⟩
  | a :: l, acc, h, hl => by
    obtain ⟨k1, k2⟩ := sPut_asc h (hl a (List.mem_cons_self ..))
    obtain ⟨k3, k4⟩ := fold_asc (l := l) k1 (fun x hx => hl x (List.mem_cons_of_mem _ hx))
    refine ⟨k3, fun x => ?_⟩
    rw [List.foldl_cons, k4 x, k2 x, List.mem_cons, or_assoc]
/-! ### Sorting and compacting -/
def Srt (R : QL) : Prop := ∀ (i j : Nat) (p q : List Value × QR), i < j → R[i]? = some p → R[j]? = some q → rLt q.2 p.2 = false
theorem ddL_asc {R : QL} (hok : ∀ p ∈ R, ratOkB p.2 = true) (hs : Srt R) : ∀ m, m ≤ R.length → Asc ((ddL R m).map Prod.snd) ∧ ∀ x, x ∈ (ddL R m).map Prod.snd ↔ x ∈ (R.take m).map Prod.snd
  | 0, _ => ⟨⟨fun x hx => by simp [ddL] at hx, by simp [ddL]⟩, fun x => by simp [ddL]⟩
  | m + 1, hm => by
    obtain ⟨⟨h1, h2⟩, h3⟩ := ddL_asc hok hs m (by omega)
    have hp : R[m]? = some R[m] := List.getElem?_eq_getElem (by omega)
    have okm := hok _ (List.mem_of_getElem? hp)
    cases hb : ddB R m with
    | true =>
      rw [ddL_dup hb]
      refine ⟨⟨h1, h2⟩, fun x => ?_⟩
      rw [h3 x, List.take_add_one, hp, List.map_append, List.mem_append]
      refine ⟨fun h => .inl h, fun h => ?_⟩
      rcases h with h | h
      · exact h
      · simp only [Option.toList_some, List.map_cons, List.map_nil, List.mem_singleton] at h
        subst h
        unfold ddB at hb
        simp only [Bool.and_eq_true, decide_eq_true_eq] at hb
        obtain ⟨hm0, he⟩ := hb
        have hq : R[m - 1]? = some R[m - 1] := List.getElem?_eq_getElem (by omega)
        rw [hp, hq] at he
        simp only [Option.map_some, Option.some.injEq] at he
        rw [he]
        exact List.mem_map.2 ⟨R[m - 1], List.mem_of_getElem? (i := m - 1) (by rw [List.getElem?_take, if_pos (by omega), hq]), rfl⟩
    | false =>
      rw [ddL_new hb hp, List.map_append]
      refine ⟨⟨fun x hx => ?_, ?_⟩, fun x => ?_⟩
      · rw [List.mem_append] at hx
        rcases hx with hx | hx
        · exact h1 x hx
        · simp only [List.map_cons, List.map_nil, List.mem_singleton] at hx
          subst hx
          exact okm
      · rw [List.pairwise_append]
        refine ⟨h2, by simp, fun x hx y hy => ?_⟩
        simp only [List.map_cons, List.map_nil, List.mem_singleton] at hy
        subst hy
        obtain ⟨p, hp1, rfl⟩ := List.mem_map.1 ((h3 x).1 hx)
        obtain ⟨i, hi⟩ := List.mem_iff_getElem?.1 hp1
        rw [List.getElem?_take] at hi
        by_cases him : i < m
        · rw [if_pos him] at hi
          have okp := hok _ (List.mem_of_getElem? hi)
          have hq : R[m - 1]? = some R[m - 1] := List.getElem?_eq_getElem (by omega)
          have okq := hok _ (List.mem_of_getElem? hq)
          have s1 := hs i m _ _ him hi hp
          have s2 := hs (m - 1) m _ _ (by omega) hq hp
          cases hk : rLt p.2 R[m].2 with
          | true => rfl
          | false =>
            have e1 := rLt_total okp okm hk s1
            have s3 : rLt R[m - 1].2 p.2 = false := by
              rcases Nat.lt_or_ge i (m - 1) with h5 | h5
              · exact hs i (m - 1) _ _ h5 hi hq
              · obtain rfl : i = m - 1 := by omega
                rw [hq] at hi
                cases hi
                exact rLt_irrefl _ okq
            rw [e1] at s3
            have e2 := rLt_total okm okq s2 s3
            unfold ddB at hb
            rw [hp, hq] at hb
            simp [e2, show m ≠ 0 by omega] at hb
        · rw [if_neg him] at hi; cases hi
      · rw [List.mem_append, h3 x, List.take_add_one, hp, List.map_append, List.mem_append]
        rfl
theorem sRats_of {l : List QR} {R : QL} (hok : l.all ratOkB = true) (hp : (R.map Prod.snd).Perm l) (hs : Srt R) : (ddL R R.length).map Prod.snd = sRats l := by
  have hl : ∀ x ∈ l, ratOkB x = true := fun x hx => List.all_eq_true.1 hok x hx
  unfold sRats
  rw [if_pos hok]
  obtain ⟨h1, h2⟩ := ddL_asc (fun p hp' => hl _ (hp.mem_iff.1 (List.mem_map.2 ⟨p, hp', rfl⟩))) hs R.length (Nat.le_refl _)
  obtain ⟨h3, h4⟩ := fold_asc (l := l) (acc := []) ⟨by simp, by simp⟩ hl
  refine asc_unique h1 h3 fun x => ?_
  rw [h2 x, h4 x, List.take_length, hp.mem_iff]
  simp
theorem sPut_mem {l : List QR} {r x : QR} (h : x ∈ sPut l r) : x ∈ l ∨ x = r := by
  unfold sPut at h
  split at h
  · exact .inl h
  · rw [List.mem_append, List.mem_append, List.mem_singleton] at h
    rcases h with (h | h) | h
    · exact .inl (List.mem_of_mem_take h)
    · exact .inr h
    · exact .inl (List.mem_of_mem_drop h)
theorem sPut_len (l : List QR) (r : QR) : (sPut l r).length ≤ l.length + 1 := by
  unfold sPut
  split
  · omega
  · simp
    omega
theorem fold_len : ∀ (l acc : List QR), (l.foldl sPut acc).length ≤ acc.length + l.length
  | [], acc => by simp
  | a :: l, acc => by
    have := fold_len l (sPut acc a)
    have := sPut_len acc a
    simp only [List.foldl_cons, List.length_cons]
    omega
theorem fold_mem : ∀ {l acc : List QR} {x : QR}, x ∈ l.foldl sPut acc → x ∈ acc ∨ x ∈ l
  | [], acc, x, h => .inl h
  | a :: l, acc, x, h => by
    rcases fold_mem (l := l) h with h | h
    · rcases sPut_mem h with h | rfl
      · exact .inl h
      · exact .inr (List.mem_cons_self ..)
    · exact .inr (List.mem_cons_of_mem _ h)
theorem sRats_len (l : List QR) : (sRats l).length ≤ l.length := by
  unfold sRats
  split
  · have := fold_len l []
    simpa using this
  · simp
theorem sRats_mem {l : List QR} {x : QR} (h : x ∈ sRats l) : x ∈ l := by
  unfold sRats at h
  split at h
  · rcases fold_mem h with h | h
    · simp at h
    · exact h
  · simp at h
end Go.Proofs.Ytnbefpfijaimjaa
