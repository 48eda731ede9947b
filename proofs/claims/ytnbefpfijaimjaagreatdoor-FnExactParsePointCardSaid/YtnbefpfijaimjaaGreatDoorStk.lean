/- What the pieces of a text are; two ways to read a fraction and a point agree. Plain facts; it speaks of no program. -/
import Derived.Test.YtnbefpfijaimjaaGreatDoorStr
import Derived.Test.YtnbefpfijaimjaaGreatDoorStj
namespace Go.Proofs.YtnbefpfijaimjaaGreatDoor
abbrev NoC (c : UInt8) (l : List UInt8) : Prop := ∀ x ∈ l, x ≠ c
theorem cutC_app {c : UInt8} : ∀ {a b : List UInt8}, NoC c a → cutC c (a ++ c :: b) = (a, b, true)
  | [], b, _ => by
    show cutC c (c :: b) = _
    rw [cutC, if_pos rfl]
  | x :: a, b, h => by
    show cutC c (x :: (a ++ c :: b)) = _
    rw [cutC, if_neg (h x (List.mem_cons_self ..)), cutC_app (fun y hy => h y (List.mem_cons_of_mem _ hy))]
theorem cutC_no {c : UInt8} : ∀ {a : List UInt8}, NoC c a → cutC c a = (a, [], false)
  | [], _ => rfl
  | x :: a, h => by
    rw [cutC, if_neg (h x (List.mem_cons_self ..)), cutC_no (fun y hy => h y (List.mem_cons_of_mem _ hy))]
theorem cutC_spec {c : UInt8} : ∀ {l : List UInt8}, NoC c (cutC c l).1 ∧ ((cutC c l).2.2 = true → l = (cutC c l).1 ++ c :: (cutC c l).2.1) ∧ ((cutC c l).2.2 = false → (cutC c l).1 = l ∧ (cutC c l).2.1 = [])
  | [] => by
    refine ⟨fun x hx => ?_, fun h => ?_, fun _ => ⟨rfl, rfl⟩⟩
    · simp [cutC] at hx
    · simp [cutC] at h
  | b :: t => by
    obtain ⟨h1, h2, h3⟩ := cutC_spec (c := c) (l := t)
    rw [cutC]
    by_cases hb : b = c
    · subst hb
      rw [if_pos rfl]
      exact ⟨fun x hx => by simp at hx, fun _ => rfl, fun h => by simp at h⟩
    · rw [if_neg hb]
      refine ⟨fun x hx => ?_, fun h => ?_, fun h => ?_⟩
      · rcases List.mem_cons.1 hx with rfl | hx
        · exact hb
        · exact h1 x hx
      · show b :: t = b :: ((cutC c t).1 ++ c :: (cutC c t).2.1)
        rw [← h2 h]
      · obtain ⟨k1, k2⟩ := h3 h
        exact ⟨by show b :: (cutC c t).1 = _; rw [k1], k2⟩
theorem dig_noC {l : List UInt8} (h : l.all digB = true) : NoC 44 l ∧ NoC 47 l := by
  constructor
  · intro x hx he
    have h1 := List.all_eq_true.1 h x hx
    subst he
    revert h1
    decide
  · intro x hx he
    have h1 := List.all_eq_true.1 h x hx
    subst he
    revert h1
    decide
theorem digit_dig {d : Nat} (h : d < 10) : digB (UInt8.ofNat (48 + d)) = true := by
  unfold digB
  rw [UInt8.toNat_ofNat', Nat.mod_eq_of_lt (by omega)]
  simp
  omega
theorem dec_dig (n : Nat) : (Lib.decDigits n).all digB = true := by
  induction n using Nat.strongRecOn with
  | ind n ih =>
    by_cases h : n < 10
    · rw [dec_small h, List.all_cons, digit_dig h]
      rfl
    · rw [dec_big h, List.all_append, ih (n / 10) (by omega), List.all_cons, digit_dig (show n % 10 < 10 by omega)]
      rfl
theorem padZ_dig {l : List UInt8} (h : l.all digB = true) : (padZ l).all digB = true := by
  unfold padZ
  rw [List.all_append, h, Bool.and_true]
  rw [List.all_eq_true]
  intro x hx
  rw [List.mem_replicate] at hx
  rw [hx.2]
  decide
theorem fTail_dig (l : List Int) : ∀ k, (fTail l k).all digB = true
  | 0 => rfl
  | k + 1 => by
    unfold fTail
    rw [List.all_append, padZ_dig (show (dI (l.getD k 0)).all digB = true from dec_dig _), fTail_dig l k]
    rfl
theorem fN_dig (l : List Int) : (fN l).all digB = true := by
  unfold fN
  split
  · decide
  · rw [List.all_append, fTail_dig]
    show ((Lib.decDigits _).all digB && true) = true
    rw [dec_dig]
    rfl
theorem fBig_noC (x : QZ) : NoC 44 (fBig x) ∧ NoC 47 (fBig x) := by
  have h := dig_noC (fN_dig x.2)
  unfold fBig
  split
  · refine ⟨fun y hy => ?_, fun y hy => ?_⟩
    · rcases List.mem_cons.1 hy with rfl | hy
      · decide
      · exact h.1 y hy
    · rcases List.mem_cons.1 hy with rfl | hy
      · decide
      · exact h.2 y hy
  · exact h
theorem fR_comma (f : Fr) : NoC 44 (fR f) := by
  unfold fR
  split
  · exact (fBig_noC _).1
  · intro y hy
    rcases List.mem_append.1 hy with hy | hy
    · exact (fBig_noC _).1 y hy
    · rcases List.mem_cons.1 hy with rfl | hy
      · decide
      · exact (dig_noC (fN_dig _)).1 y hy
/-- A fraction's text has at most one stroke. -/
theorem fR_cut (f : Fr) : NoC 47 (cutC 47 (fR f)).2.1 := by
  unfold fR
  split
  · rw [cutC_no (fBig_noC _).2]
    intro x hx
    simp at hx
  · rw [cutC_app (fBig_noC _).2]
    exact (dig_noC (fN_dig _)).2
theorem pRm_some {l : List UInt8} {a : Option Int} {t : Option Nat} {f : Fr} (h : pRm l a t = some f) : fR f = l := by
  cases a with
  | none => rw [pRm_a] at h; cases h
  | some m =>
    cases t with
    | none => rw [pRm_t] at h; cases h
    | some d =>
      rcases Bool.eq_false_or_eq_true (ratOkB (encR (m, d)) && decide (fR (m, d) = l)) with hb | hb
      · rw [pRm_yes hb] at h
        cases h
        rw [Bool.and_eq_true, decide_eq_true_eq] at hb
        exact hb.2
      · rw [pRm_no hb] at h
        cases h
theorem splitC_cons (c : UInt8) (l : List UInt8) : ∃ h t, splitC c l = h :: t ∧ ((∃ r, l = h ++ c :: r ∧ t = splitC c r) ∨ (t = [] ∧ h = l)) := by
  obtain ⟨h1, h2, h3⟩ := cutC_spec (c := c) (l := l)
  cases hb : (cutC c l).2.2 with
  | true =>
    have e := h2 hb
    refine ⟨(cutC c l).1, splitC c (cutC c l).2.1, ?_, .inl ⟨_, e, rfl⟩⟩
    conv => lhs; rw [e]
    exact splitC_at h1
  | false =>
    obtain ⟨e, _⟩ := h3 hb
    exact ⟨l, [], splitC_none (by rw [← e]; exact h1), .inr ⟨rfl, rfl⟩⟩
def denT (r : List (List UInt8)) : Option Nat := match r with
  | [] => some 1
  | w1 :: _ => pN w1
/-- How the reference reads a fraction. -/
theorem pR_split {l : List UInt8} {w0 : List UInt8} {r : List (List UInt8)} (h : splitC 47 l = w0 :: r) : pRm l (pB w0) (denT r) = pR l := by
  obtain ⟨k1, k2, k3⟩ := cutC_spec (c := 47) (l := l)
  unfold pR
  cases hb : (cutC 47 l).2.2 with
  | false =>
    obtain ⟨e, _⟩ := k3 hb
    have e2 : splitC 47 l = [l] := splitC_none (by rw [← e]; exact k1)
    rw [e2] at h
    cases h
    rw [e]
    rfl
  | true =>
    have e := k2 hb
    have e2 : splitC 47 l = (cutC 47 l).1 :: splitC 47 (cutC 47 l).2.1 := by
      conv => lhs; rw [e]
      exact splitC_at k1
    rw [e2] at h
    simp only [List.cons.injEq] at h
    obtain ⟨rfl, rfl⟩ := h
    obtain ⟨w1, t, e3, h4⟩ := splitC_cons 47 (cutC 47 l).2.1
    rw [e3]
    show pRm l _ (pN w1) = pRm l _ (pN (cutC 47 l).2.1)
    rcases h4 with ⟨q, hq, _⟩ | ⟨_, hq⟩
    · have hx2 : pN (cutC 47 l).2.1 = none := by
        cases hp : pN (cutC 47 l).2.1 with
        | none => rfl
        | some n =>
          exact absurd rfl ((dig_noC (pN_ok hp).1).2 47 (by rw [hq]; simp))
      rw [hx2, pRm_t]
      cases hp : pRm l (pB (cutC 47 l).1) (pN w1) with
      | none => rfl
      | some f =>
        have hf := pRm_some hp
        have := fR_cut f
        rw [hf] at this
        exact absurd rfl (this 47 (by rw [hq]; simp))
    · rw [hq]
noncomputable def pP (l : List UInt8) : Option (Fr × Fr) := if (cutC 44 l).2.2 then (match pR (cutC 44 l).1, pR (cutC 44 l).2.1 with | some a, some b => some (a, b) | _, _ => none) else none
/-- How the reference reads a point. -/
theorem pP_split {l : List UInt8} : pP l = (match splitC 44 l with | [a, b] => (match pR a, pR b with | some a, some b => some (a, b) | _, _ => none) | _ => none) := by
  obtain ⟨k1, k2, k3⟩ := cutC_spec (c := 44) (l := l)
  unfold pP
  cases hb : (cutC 44 l).2.2 with
  | false =>
    obtain ⟨e, _⟩ := k3 hb
    have e2 : splitC 44 l = [l] := splitC_none (by rw [← e]; exact k1)
    rw [e2]
    rfl
  | true =>
    have e := k2 hb
    have e2 : splitC 44 l = (cutC 44 l).1 :: splitC 44 (cutC 44 l).2.1 := by
      conv => lhs; rw [e]
      exact splitC_at k1
    obtain ⟨w1, t, e3, h4⟩ := splitC_cons 44 (cutC 44 l).2.1
    rw [e2, e3]
    rcases h4 with ⟨q, hq, ht⟩ | ⟨ht, hq⟩
    · obtain ⟨w2, t2, e4, _⟩ := splitC_cons 44 q
      rw [ht, e4]
      have hn : pR (cutC 44 l).2.1 = none := by
        cases hp : pR (cutC 44 l).2.1 with
        | none => rfl
        | some f =>
          have hf := pRm_some hp
          exact absurd rfl (fR_comma f 44 (by rw [hf, hq]; simp))
      rw [hn]
      cases pR (cutC 44 l).1 <;> rfl
    · subst ht
      rw [hq]
      rfl
end Go.Proofs.YtnbefpfijaimjaaGreatDoor
