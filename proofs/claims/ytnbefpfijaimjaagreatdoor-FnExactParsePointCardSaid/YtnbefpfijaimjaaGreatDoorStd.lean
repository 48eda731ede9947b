/- Digits of a text. -/
import Derived.Test.YtnbefpfijaimjaaGreatDoorStb
import Derived.Test.YtnbefpfijaimjaaGreatDoorRows
import Derived.Test.YtnbefpfijaimjaaGreatDoorApp
import Derived.Deep.QuietTactic
import Derived.Deep.RegionHeld3
namespace Go.Proofs.YtnbefpfijaimjaaGreatDoor
open Go.RowKit
def digB (b : UInt8) : Bool := decide (48 ≤ b.toNat) && decide (b.toNat ≤ 57)
def isDig (l : List UInt8) : Bool := !l.isEmpty && l.all digB
theorem sB_at {l : List UInt8} {k : Nat} (hk : k < l.length) : ∃ c : UInt8, l[k]? = some c := ⟨_, List.getElem?_eq_getElem hk⟩
theorem all_next {l : List UInt8} {k : Nat} {c : UInt8} {p : UInt8 → Bool} (h : (l.take k).all p = true) (hc : l[k]? = some c) (hp : p c = true) : (l.take (k + 1)).all p = true := by
  rw [List.take_add_one, hc, List.all_append, h]
  simp [hp]
theorem all_stop {l : List UInt8} {k : Nat} {c : UInt8} {p : UInt8 → Bool} (hc : l[k]? = some c) (hp : p c = false) : l.all p = false := by
  rw [Bool.eq_false_iff]
  intro h
  have := List.all_eq_true.1 h c (List.mem_of_getElem? hc)
  rw [hp] at this
  cases this
theorem digB_lo {c : UInt8} (h : (c.toNat : Int) < 48) : digB c = false := by
  unfold digB
  rw [decide_eq_false (by omega)]
  rfl
theorem digB_hi {c : UInt8} (h : (57 : Int) < c.toNat) : digB c = false := by
  unfold digB
  rw [decide_eq_false (p := c.toNat ≤ 57) (by omega), Bool.and_false]
theorem digB_yes {c : UInt8} (h : ¬ (c.toNat : Int) < 48) (h' : ¬ (57 : Int) < c.toNat) : digB c = true := by
  unfold digB
  rw [decide_eq_true (by omega), decide_eq_true (by omega)]
  rfl
theorem sB_ne {l : List UInt8} (h : l ≠ []) : sB l ≠ ⟨#[]⟩ := fun e => h (sB_inj.1 (e.trans rfl))
theorem isDig_stop {l : List UInt8} (h : l.all digB = false) : isDig l = false := by
  unfold isDig
  rw [h, Bool.and_false]
theorem isDig_ne {l : List UInt8} (h : l ≠ []) : isDig l = l.all digB := by
  cases l with
  | nil => exact absurd rfl h
  | cons a l => rfl
set_option maxHeartbeats 800000 in
theorem impl_areOf (l : List UInt8) (w : World) (hl : l.length ≤ 1048576) :
    Calls Tryz.prog 121 #[.string (sB l), .int .u8 48, .int .u8 57] w fun e w' => e = .returned (.bool (l.all digB)) ∧ More w w' := by
  obtain ⟨n, hn⟩ : ∃ n, n = l.length := ⟨_, rfl⟩
  have hs : (sB l).size = n := by rw [sB_size, hn]
  have HN := Lib.hid hn; clear hn
  rw [← HN.out] at hl
  go_enter Tryz.func121, Tryz.ntmps121
  go_wp2_with fail
  go_loopw [10] (fun i wr => ∃ k : Nat, k ≤ n ∧ i = .int .i64 k ∧ More w wr ∧ Hid ((l.take k).all digB = true)) (fun i _ => n - (intOf i).toNat)
  case atStart => exact ⟨0, Nat.zero_le _, rfl, mC, Lib.hid rfl⟩
  case round =>
    obtain ⟨k, hk, rfl, hm, HA⟩ := hrel
    by_cases hlt : k < n
    · obtain ⟨c, hc⟩ := sB_at (l := l) (k := k) (by rw [← HN.out]; exact hlt)
      have HC := Lib.hid hc; clear hc
      have hg : ∀ h, (sB l)[k]'h = c := fun h => sB_get HC.out h
      have hi0 : (0 : Int) ≤ (k : Int) := by omega
      have hi1 : (k : Int) < (n : Int) := by omega
      by_cases h1 : (c.toNat : Int) < 48
      · go_wp2_with fail
        go_ret
        refine ⟨?_, mC⟩
        have h9 := all_stop HC.out (digB_lo h1)
        rw [h9]; rfl
      · by_cases h2 : (57 : Int) < (c.toNat : Int)
        · go_wp2_with fail
          go_ret
          refine ⟨?_, mC⟩
          have h9 := all_stop HC.out (digB_hi h2)
          rw [h9]; rfl
        · have HD := Lib.hid (digB_yes h1 h2)
          go_wp2_with fail
          go_roundw
          case rel => exact ⟨k + 1, by omega, by go_num, mC, Lib.hid (all_next HA.out HC.out HD.out)⟩
          case measure => simp [intOf]; omega
    · have hi1 : ¬ (k : Int) < (n : Int) := by omega
      go_wp2_with fail
      go_ret
      refine ⟨?_, mC⟩
      obtain rfl : k = n := by omega
      have h := HA.out
      rw [HN.out, List.take_length] at h
      rw [h]; rfl
set_option maxHeartbeats 800000 in
theorem impl_IsDigits (l : List UInt8) (w : World) (hl : l.length ≤ 1048576) :
    Calls Tryz.prog 87 #[.string (sB l)] w fun e w' => e = .returned (.bool (isDig l)) ∧ More w w' := by
  by_cases h0 : l = []
  · subst h0
    show Calls Tryz.prog 87 #[.string ⟨#[]⟩] w _
    go_enter Tryz.func87, Tryz.ntmps87
    go_wp2_with fail
    go_ret
    exact ⟨rfl, mC⟩
  · have hne : (sB l).toList.isEmpty = false := by rw [sB_toList]; cases l with
      | nil => exact absurd rfl h0
      | cons a l => rfl
    have H0 := Lib.hid h0; clear h0
    go_enter Tryz.func87, Tryz.ntmps87
    go_wp2_with (go_at_call 121; refine (impl_areOf l _ hl).mono ?_; rintro e w1 ⟨rfl, hb1⟩)
    go_ret
    exact ⟨by rw [isDig_ne H0.out]; rfl, mC⟩
set_option maxHeartbeats 800000 in
theorem spec_IsDigits (l : List UInt8) (w : World) (hl : l.length ≤ 1048576) :
    Calls Tryz.prog 78 #[.string (sB l)] w fun e w' => e = .returned (.bool (isDig l)) ∧ More w w' := by
  obtain ⟨n, hn⟩ : ∃ n, n = l.length := ⟨_, rfl⟩
  have hs : (sB l).size = n := by rw [sB_size, hn]
  have HN := Lib.hid hn; clear hn
  rw [← HN.out] at hl
  go_enter Tryz.func78, Tryz.ntmps78
  go_wp2_with fail
  go_loopw [3] (fun i wr => ∃ k : Nat, k ≤ n ∧ i = .int .i64 k ∧ More w wr ∧ Hid ((l.take k).all digB = true)) (fun i _ => n - (intOf i).toNat)
  case atStart => exact ⟨0, Nat.zero_le _, rfl, mC, Lib.hid rfl⟩
  case round =>
    obtain ⟨k, hk, rfl, hm, HA⟩ := hrel
    by_cases hlt : k < n
    · obtain ⟨c, hc⟩ := sB_at (l := l) (k := k) (by rw [← HN.out]; exact hlt)
      have HC := Lib.hid hc; clear hc
      have hg : ∀ h, (sB l)[k]'h = c := fun h => sB_get HC.out h
      have hi0 : (0 : Int) ≤ (k : Int) := by omega
      have hi1 : (k : Int) < (n : Int) := by omega
      by_cases h1 : (c.toNat : Int) < 48
      · go_wp2_with fail
        go_ret
        refine ⟨?_, mC⟩
        have h9 := all_stop HC.out (digB_lo h1)
        rw [isDig_stop h9]; rfl
      · by_cases h2 : (57 : Int) < (c.toNat : Int)
        · go_wp2_with fail
          go_ret
          refine ⟨?_, mC⟩
          have h9 := all_stop HC.out (digB_hi h2)
          rw [isDig_stop h9]; rfl
        · have HD := Lib.hid (digB_yes h1 h2)
          go_wp2_with fail
          go_roundw
          case rel => exact ⟨k + 1, by omega, by go_num, mC, Lib.hid (all_next HA.out HC.out HD.out)⟩
          case measure => simp [intOf]; omega
    · have hi1 : ¬ (k : Int) < (n : Int) := by omega
      obtain rfl : k = n := by omega
      have h := HA.out
      rw [HN.out, List.take_length] at h
      have HD := Lib.hid h; clear h
      by_cases h0 : k = 0
      · have h1 : ¬ (0 : Int) < (k : Int) := by omega
        go_wp2_with fail
        go_ret
        refine ⟨?_, mC⟩
        have e0 : l = [] := List.eq_nil_of_length_eq_zero (HN.out.symm.trans h0)
        subst e0
        rfl
      · have h1 : (0 : Int) < (k : Int) := by omega
        go_wp2_with fail
        go_ret
        refine ⟨?_, mC⟩
        have h8 : l ≠ [] := fun e => by rw [HN.out, e] at h0; simp at h0
        show Ending.returned (.bool (decide (0 < k))) = _
        rw [isDig_ne h8, HD.out, decide_eq_true (by omega)]
end Go.Proofs.YtnbefpfijaimjaaGreatDoor
