/- Trimming a list of limbs that the call owns. -/
import Derived.Test.YtnbefpfijaimjaaGreatDoorNatA
import Derived.Test.YtnbefpfijaimjaaGreatDoorApp
import Derived.Test.YtnbefpfijaimjaaGreatDoorGVec
namespace Go.Proofs.YtnbefpfijaimjaaGreatDoor
open Go.RowKit
theorem FlatOwn.takeP {α : Type} {S : Ty α} {F : Flat S} {B : Nat} {e : TypeId} {w : World} {a : Option Addr} {n cap : Nat} {l : List α} (h : FlatOwn F B e w (.slice a n cap) l) (hF : ∀ x ∈ l, (F.enc x).length = S.size) {m : Nat} (hm : m ≤ n) (h0 : 0 < n) : FlatOwn F B e w (.slice a m cap) (l.take m) := by
  have hn : n = l.length := by obtain ⟨_, _, e9⟩ := h.len; cases e9; rfl
  obtain ⟨⟨h1, h2⟩, h3⟩ := h
  refine ⟨⟨length_flatMap_chunk _ (fun y hy => hF y (List.mem_of_mem_take hy)), ?_⟩, fun x hx => h3 x (List.mem_of_mem_take hx)⟩
  rcases h2 with ⟨e1, e2⟩ | ⟨g, cap', cur, e1, q1, q2, q3, q4, q5, q6⟩
  · omega
  · cases e1
    rw [List.length_take, Nat.min_eq_left (by omega)]
    refine .inr ⟨g, cap, cur, rfl, q1, q2, by omega, q4, q5, ?_⟩
    have e7 : l.flatMap F.enc = (l.take m).flatMap F.enc ++ (l.drop m).flatMap F.enc := by rw [← List.flatMap_append, List.take_append_drop]
    have e8 : ((l.take m).flatMap F.enc).length = m * S.size := by
      rw [length_flatMap_chunk _ (fun y hy => hF y (List.mem_of_mem_take hy)), List.length_take, Nat.min_eq_left (by omega)]
    have e9 := congrArg (List.take (m * S.size)) q6
    rw [List.take_take, Nat.min_eq_left (Nat.mul_le_mul_right _ (by omega)), e7, List.take_left' e8] at e9
    exact e9
theorem FlatOwn.takeI {B : Nat} {e : TypeId} {w : World} {a : Option Addr} {n cap : Nat} {l : List Int} (h : FlatOwn fInt B e w (.slice a n cap) l) {m : Nat} (hm : m ≤ n) : FlatOwn fInt B e w (.slice a m cap) (l.take m) := by
  by_cases h0 : 0 < n
  · exact FlatOwn.takeP h (fun x _ => rfl) hm h0
  · have hn : n = l.length := by obtain ⟨_, _, e9⟩ := h.len; cases e9; rfl
    obtain rfl : m = n := by omega
    rw [List.take_of_length_le (by omega)]
    exact h
set_option maxHeartbeats 1600000 in
theorem impl_trimmedO (B : Nat) (v : Value) (l : List Int) (N : Nat) (w : World) (hv0 : FlatOwn fInt B 3 w v l) (hl : l.length ≤ 1048576) (hok : IsL l) (hval : val l = N) :
    Calls Tryz.prog 88 #[v] w fun e w' => ∃ v', e = .returned v' ∧ More w w' ∧ FlatOwn fInt B 3 w' v' (limbs N) := by
  have hv := hv0.at
  obtain ⟨ao, cap, rfl, k1, k2, k3, -⟩ := slRd_at hv
  have HV0 := Lib.hid hv0; clear hv0
  have HV := Lib.hid hv; have HOK := Lib.hid hok; have HVAL := Lib.hid hval; clear hv hok hval
  have hcap : cap ≤ 9223372036854775807 := by unfold maxLen at k2; omega
  clear k2
  obtain ⟨n, hn⟩ : ∃ n, n = l.length := ⟨_, rfl⟩
  rw [← hn] at HV HV0 hl k1 ⊢
  have HN := Lib.hid hn; clear hn
  go_enter Tryz.func88, Tryz.ntmps88
  go_wp2_with fail
  go_loopw [3] (fun i wr => ∃ m : Nat, m ≤ n ∧ i = .int .i64 m ∧ More w wr ∧ Hid (∀ j, m ≤ j → j < n → l.getD j 0 = 0)) (fun i _ => (intOf i).toNat)
  case atStart => exact ⟨n, Nat.le_refl _, rfl, More.refl _, Lib.hid (fun j h1 h2 => by omega)⟩
  case round =>
    obtain ⟨m, hmn, rfl, hm, HZ⟩ := hrel
    by_cases h0 : 0 < m
    · have hi0 : (0 : Int) < (m : Int) := by omega
      have hi1 : (m : Int) - 1 < (n : Int) := by omega
      have hi2 : (0 : Int) ≤ (m : Int) - 1 := by omega
      have hwk : IntKind.i64.wrap ((m : Int) - 1) = (m : Int) - 1 := IntWalk.i64_in _ (by omega)
      have e9 : ((m : Int) - 1).toNat = m - 1 := by omega
      obtain ⟨b, off, x, rfl, hblt, hx, ox, c0⟩ := int_el (Ty.at_more HV.out hm) (k := m - 1) (by rw [← HN.out]; omega)
      have HX := Lib.hid hx; clear hx ox
      by_cases hz : x = 0
      · subst hz
        go_wp2_with fail
        go_roundw
        case rel => exact ⟨m - 1, by omega, by go_num, mC, Lib.hid (fun j h1 h2 => by
          by_cases hj : j = m - 1
          · subst hj; rw [List.getD_eq_getElem?_getD, HX.out]; rfl
          · exact HZ.out j (by omega) h2)⟩
        case measure => simp [intOf]; omega
      · have hz' : (x == 0) = false := by simp [hz]
        go_wp2_with fail
        go_ret
        refine ⟨_, rfl, mC, ?_⟩
        have h2 := trim_limbs HOK.out HVAL.out (m := m) (by rw [← HN.out]; exact hmn) (fun j h1 h2 => HZ.out j h1 (by rw [HN.out]; exact h2)) (.inr (by rw [List.getD_eq_getElem?_getD, HX.out]; exact hz))
        rw [← h2]
        exact FlatOwn.takeI (HV0.out.more mC) hmn
    · have hi0 : ¬ (0 : Int) < (m : Int) := by omega
      have hm0 : m = 0 := by omega
      subst hm0
      go_wp2_with fail
      go_ret
      refine ⟨_, rfl, mC, ?_⟩
      have h2 := trim_limbs HOK.out HVAL.out (m := 0) (by omega) (fun j h1 h2 => HZ.out j h1 (by rw [HN.out]; exact h2)) (.inl rfl)
      rw [← h2]
      exact FlatOwn.takeI (HV0.out.more mC) hmn
set_option maxHeartbeats 1600000 in
theorem spec_l02TrimO (B : Nat) (v : Value) (l : List Int) (N : Nat) (w : World) (hv0 : FlatOwn fInt B 3 w v l) (hl : l.length ≤ 1048576) (hok : IsL l) (hval : val l = N) :
    Calls Tryz.prog 79 #[v] w fun e w' => ∃ v', e = .returned v' ∧ More w w' ∧ FlatOwn fInt B 3 w' v' (limbs N) := by
  have hv := hv0.at
  obtain ⟨ao, cap, rfl, k1, k2, k3, -⟩ := slRd_at hv
  have HV0 := Lib.hid hv0; clear hv0
  have HV := Lib.hid hv; have HOK := Lib.hid hok; have HVAL := Lib.hid hval; clear hv hok hval
  have hcap : cap ≤ 9223372036854775807 := by unfold maxLen at k2; omega
  clear k2
  obtain ⟨n, hn⟩ : ∃ n, n = l.length := ⟨_, rfl⟩
  rw [← hn] at HV HV0 hl k1 ⊢
  have HN := Lib.hid hn; clear hn
  go_enter Tryz.func79, Tryz.ntmps79
  go_wp2_with fail
  go_loopw [3] (fun i wr => ∃ m : Nat, m ≤ n ∧ i = .int .i64 m ∧ More w wr ∧ Hid (∀ j, m ≤ j → j < n → l.getD j 0 = 0)) (fun i _ => (intOf i).toNat)
  case atStart => exact ⟨n, Nat.le_refl _, rfl, More.refl _, Lib.hid (fun j h1 h2 => by omega)⟩
  case round =>
    obtain ⟨m, hmn, rfl, hm, HZ⟩ := hrel
    by_cases h0 : 0 < m
    · have hi0 : (0 : Int) < (m : Int) := by omega
      have hi1 : (m : Int) - 1 < (n : Int) := by omega
      have hi2 : (0 : Int) ≤ (m : Int) - 1 := by omega
      have hwk : IntKind.i64.wrap ((m : Int) - 1) = (m : Int) - 1 := IntWalk.i64_in _ (by omega)
      have e9 : ((m : Int) - 1).toNat = m - 1 := by omega
      obtain ⟨b, off, x, rfl, hblt, hx, ox, c0⟩ := int_el (Ty.at_more HV.out hm) (k := m - 1) (by rw [← HN.out]; omega)
      have HX := Lib.hid hx; clear hx ox
      by_cases hz : x = 0
      · subst hz
        go_wp2_with fail
        go_roundw
        case rel => exact ⟨m - 1, by omega, by go_num, mC, Lib.hid (fun j h1 h2 => by
          by_cases hj : j = m - 1
          · subst hj; rw [List.getD_eq_getElem?_getD, HX.out]; rfl
          · exact HZ.out j (by omega) h2)⟩
        case measure => simp [intOf]; omega
      · have hz' : (x == 0) = false := by simp [hz]
        go_wp2_with fail
        go_ret
        refine ⟨_, rfl, mC, ?_⟩
        have h2 := trim_limbs HOK.out HVAL.out (m := m) (by rw [← HN.out]; exact hmn) (fun j h1 h2 => HZ.out j h1 (by rw [HN.out]; exact h2)) (.inr (by rw [List.getD_eq_getElem?_getD, HX.out]; exact hz))
        rw [← h2]
        exact FlatOwn.takeI (HV0.out.more mC) hmn
    · have hi0 : ¬ (0 : Int) < (m : Int) := by omega
      have hm0 : m = 0 := by omega
      subst hm0
      go_wp2_with fail
      go_ret
      refine ⟨_, rfl, mC, ?_⟩
      have h2 := trim_limbs HOK.out HVAL.out (m := 0) (by omega) (fun j h1 h2 => HZ.out j h1 (by rw [HN.out]; exact h2)) (.inl rfl)
      rw [← h2]
      exact FlatOwn.takeI (HV0.out.more mC) hmn
end Go.Proofs.YtnbefpfijaimjaaGreatDoor
