/- Several texts laid together; each has its own word at its head. -/
import Derived.Test.YtnbefpfijaimjaaGreatDoorGBase
import Derived.Lib.ItoaNum
import Derived.Lib.IndexMore
import Derived.Laws.Concat
import Derived.Laws.Strings3
import Derived.Lib.Strings
import Derived.Test.YtnbefpfijaimjaaGreatDoorRows
import Derived.Test.YtnbefpfijaimjaaGreatDoorApp
import Derived.Deep.QuietTactic
import Derived.Deep.RegionHeld3
import Derived.Test.YtnbefpfijaimjaaGreatDoorGNum
/- Texts as lists of bytes. It speaks of no program. -/
namespace Go.Proofs.YtnbefpfijaimjaaGreatDoor
/-- The text of these bytes. -/
def sB (l : List UInt8) : ByteArray := ⟨l.toArray⟩
theorem sB_size (l : List UInt8) : (sB l).size = l.length := by
  show l.toArray.size = _
  simp
theorem sB_self (s : ByteArray) : sB s.data.toList = s := by
  obtain ⟨⟨l⟩⟩ := s
  rfl
theorem sB_data (l : List UInt8) : (sB l).data.toList = l := by
  show l.toArray.toList = l
  simp
theorem sB_get {l : List UInt8} {i : Nat} {c : UInt8} (h : l[i]? = some c) (hi : i < (sB l).size) : (sB l)[i]'hi = c := by
  obtain ⟨hl, rfl⟩ := List.getElem?_eq_some_iff.1 h
  rfl
theorem sB_inj {l m : List UInt8} : sB l = sB m ↔ l = m := by
  constructor
  · intro h
    have := congrArg (fun s : ByteArray => s.data.toList) h
    simpa [sB_data] using this
  · rintro rfl; rfl
theorem sB_append (l m : List UInt8) : sB l ++ sB m = sB (l ++ m) := by
  unfold sB
  rw [ByteArray.mk_append_mk]
theorem sB_extract (l : List UInt8) (a b : Nat) : (sB l).extract a b = sB ((l.take b).drop a) := by
  rw [← sB_self ((sB l).extract a b)]
  rw [sB_inj]
  rw [ByteArray.data_extract, Array.toList_extract]
  rw [sB_data, List.extract_eq_take_drop, List.drop_take]

theorem sB_toList (l : List UInt8) : (sB l).toList = l := by
  rw [Lib.toList_data, sB_data]
theorem add_run (P : Program) (l m : List UInt8) (w : World) (h : l.length + m.length ≤ 1048576) : (Op.stringOp .add (sB l) (sB m)).run P w = .ok (.string (sB (l ++ m))) w := by
  rw [run_string_add_sum w _ _ (by rw [sB_size, sB_size]; omega), sB_append]
end Go.Proofs.YtnbefpfijaimjaaGreatDoor
/- Digits of a text. -/
namespace Go.Proofs.YtnbefpfijaimjaaGreatDoor
open Go.RowKit
def digB (b : UInt8) : Bool := decide (48 ≤ b.toNat) && decide (b.toNat ≤ 57)
def isDig (l : List UInt8) : Bool := !l.isEmpty && l.all digB
theorem sB_at {l : List UInt8} {k : Nat} (hk : k < l.length) : ∃ c : UInt8, l[k]? = some c := ⟨_, List.getElem?_eq_getElem hk⟩
theorem all_next {l : List UInt8} {k : Nat} {c : UInt8} {p : UInt8 → Bool} (h : (l.take k).all p = true) (hc : l[k]? = some c) (hp : p c = true) : (l.take (k + 1)).all p = true := by
  rw [List.take_add_one, hc, List.all_append, h]
  simp [hp]
theorem all_stop {l : List UInt8} {k : Nat} {c : UInt8} {p : UInt8 → Bool} (hc : l[k]? = some c) (hp : p c = false) : l.all p = false := by
  rw [Bool.eq_false_iff]
  intro h
  have := List.all_eq_true.1 h c (List.mem_of_getElem? hc)
  rw [hp] at this
  cases this
theorem digB_lo {c : UInt8} (h : (c.toNat : Int) < 48) : digB c = false := by
  unfold digB
  rw [decide_eq_false (by omega)]
  rfl
theorem digB_hi {c : UInt8} (h : (57 : Int) < c.toNat) : digB c = false := by
  unfold digB
  rw [decide_eq_false (p := c.toNat ≤ 57) (by omega), Bool.and_false]
theorem digB_yes {c : UInt8} (h : ¬ (c.toNat : Int) < 48) (h' : ¬ (57 : Int) < c.toNat) : digB c = true := by
  unfold digB
  rw [decide_eq_true (by omega), decide_eq_true (by omega)]
  rfl
theorem sB_ne {l : List UInt8} (h : l ≠ []) : sB l ≠ ⟨#[]⟩ := fun e => h (sB_inj.1 (e.trans rfl))
theorem isDig_stop {l : List UInt8} (h : l.all digB = false) : isDig l = false := by
  unfold isDig
  rw [h, Bool.and_false]
theorem isDig_ne {l : List UInt8} (h : l ≠ []) : isDig l = l.all digB := by
  cases l with
  | nil => exact absurd rfl h
  | cons a l => rfl
set_option maxHeartbeats 800000 in
theorem impl_areOf (l : List UInt8) (w : World) (hl : l.length ≤ 1048576) :
    Calls Tryz.prog 121 #[.string (sB l), .int .u8 48, .int .u8 57] w fun e w' => e = .returned (.bool (l.all digB)) ∧ More w w' := by
  obtain ⟨n, hn⟩ : ∃ n, n = l.length := ⟨_, rfl⟩
  have hs : (sB l).size = n := by rw [sB_size, hn]
  have HN := Lib.hid hn; clear hn
  rw [← HN.out] at hl
  go_enter Tryz.func121, Tryz.ntmps121
  go_wp2_with fail
  go_loopw [10] (fun i wr => ∃ k : Nat, k ≤ n ∧ i = .int .i64 k ∧ More w wr ∧ Hid ((l.take k).all digB = true)) (fun i _ => n - (intOf i).toNat)
  case atStart => exact ⟨0, Nat.zero_le _, rfl, mC, Lib.hid rfl⟩
  case round =>
    obtain ⟨k, hk, rfl, hm, HA⟩ := hrel
    by_cases hlt : k < n
    · obtain ⟨c, hc⟩ := sB_at (l := l) (k := k) (by rw [← HN.out]; exact hlt)
      have HC := Lib.hid hc; clear hc
      have hg : ∀ h, (sB l)[k]'h = c := fun h => sB_get HC.out h
      have hi0 : (0 : Int) ≤ (k : Int) := by omega
      have hi1 : (k : Int) < (n : Int) := by omega
      by_cases h1 : (c.toNat : Int) < 48
      · go_wp2_with fail
        go_ret
        refine ⟨?_, mC⟩
        have h9 := all_stop HC.out (digB_lo h1)
        rw [h9]; rfl
      · by_cases h2 : (57 : Int) < (c.toNat : Int)
        · go_wp2_with fail
          go_ret
          refine ⟨?_, mC⟩
          have h9 := all_stop HC.out (digB_hi h2)
          rw [h9]; rfl
        · have HD := Lib.hid (digB_yes h1 h2)
          go_wp2_with fail
          go_roundw
          case rel => exact ⟨k + 1, by omega, by go_num, mC, Lib.hid (all_next HA.out HC.out HD.out)⟩
          case measure => simp [intOf]; omega
    · have hi1 : ¬ (k : Int) < (n : Int) := by omega
      go_wp2_with fail
      go_ret
      refine ⟨?_, mC⟩
      obtain rfl : k = n := by omega
      have h := HA.out
      rw [HN.out, List.take_length] at h
      rw [h]; rfl
set_option maxHeartbeats 800000 in
theorem impl_IsDigits (l : List UInt8) (w : World) (hl : l.length ≤ 1048576) :
    Calls Tryz.prog 87 #[.string (sB l)] w fun e w' => e = .returned (.bool (isDig l)) ∧ More w w' := by
  by_cases h0 : l = []
  · subst h0
    show Calls Tryz.prog 87 #[.string ⟨#[]⟩] w _
    go_enter Tryz.func87, Tryz.ntmps87
    go_wp2_with fail
    go_ret
    exact ⟨rfl, mC⟩
  · have hne : (sB l).toList.isEmpty = false := by rw [sB_toList]; cases l with
      | nil => exact absurd rfl h0
      | cons a l => rfl
    have H0 := Lib.hid h0; clear h0
    go_enter Tryz.func87, Tryz.ntmps87
    go_wp2_with (go_at_call 121; refine (impl_areOf l _ hl).mono ?_; rintro e w1 ⟨rfl, hb1⟩)
    go_ret
    exact ⟨by rw [isDig_ne H0.out]; rfl, mC⟩
set_option maxHeartbeats 800000 in
theorem spec_IsDigits (l : List UInt8) (w : World) (hl : l.length ≤ 1048576) :
    Calls Tryz.prog 78 #[.string (sB l)] w fun e w' => e = .returned (.bool (isDig l)) ∧ More w w' := by
  obtain ⟨n, hn⟩ : ∃ n, n = l.length := ⟨_, rfl⟩
  have hs : (sB l).size = n := by rw [sB_size, hn]
  have HN := Lib.hid hn; clear hn
  rw [← HN.out] at hl
  go_enter Tryz.func78, Tryz.ntmps78
  go_wp2_with fail
  go_loopw [3] (fun i wr => ∃ k : Nat, k ≤ n ∧ i = .int .i64 k ∧ More w wr ∧ Hid ((l.take k).all digB = true)) (fun i _ => n - (intOf i).toNat)
  case atStart => exact ⟨0, Nat.zero_le _, rfl, mC, Lib.hid rfl⟩
  case round =>
    obtain ⟨k, hk, rfl, hm, HA⟩ := hrel
    by_cases hlt : k < n
    · obtain ⟨c, hc⟩ := sB_at (l := l) (k := k) (by rw [← HN.out]; exact hlt)
      have HC := Lib.hid hc; clear hc
      have hg : ∀ h, (sB l)[k]'h = c := fun h => sB_get HC.out h
      have hi0 : (0 : Int) ≤ (k : Int) := by omega
      have hi1 : (k : Int) < (n : Int) := by omega
      by_cases h1 : (c.toNat : Int) < 48
      · go_wp2_with fail
        go_ret
        refine ⟨?_, mC⟩
        have h9 := all_stop HC.out (digB_lo h1)
        rw [isDig_stop h9]; rfl
      · by_cases h2 : (57 : Int) < (c.toNat : Int)
        · go_wp2_with fail
          go_ret
          refine ⟨?_, mC⟩
          have h9 := all_stop HC.out (digB_hi h2)
          rw [isDig_stop h9]; rfl
        · have HD := Lib.hid (digB_yes h1 h2)
          go_wp2_with fail
          go_roundw
          case rel => exact ⟨k + 1, by omega, by go_num, mC, Lib.hid (all_next HA.out HC.out HD.out)⟩
          case measure => simp [intOf]; omega
    · have hi1 : ¬ (k : Int) < (n : Int) := by omega
      obtain rfl : k = n := by omega
      have h := HA.out
      rw [HN.out, List.take_length] at h
      have HD := Lib.hid h; clear h
      by_cases h0 : k = 0
      · have h1 : ¬ (0 : Int) < (k : Int) := by omega
        go_wp2_with fail
        go_ret
        refine ⟨?_, mC⟩
        have e0 : l = [] := List.eq_nil_of_length_eq_zero (HN.out.symm.trans h0)
        subst e0
        rfl
      · have h1 : (0 : Int) < (k : Int) := by omega
        go_wp2_with fail
        go_ret
        refine ⟨?_, mC⟩
        have h8 : l ≠ [] := fun e => by rw [HN.out, e] at h0; simp at h0
        show Ending.returned (.bool (decide (0 < k))) = _
        rw [isDig_ne h8, HD.out, decide_eq_true (by omega)]
end Go.Proofs.YtnbefpfijaimjaaGreatDoor
/- The number that digits say, and its limbs of nine digits. Plain facts; it speaks of no program. -/
namespace Go.Proofs.YtnbefpfijaimjaaGreatDoor
def digV (b : UInt8) : Nat := b.toNat - 48
def cv (l : List UInt8) : Nat := l.foldl (fun n b => n * 10 + digV b) 0
theorem cv_snoc (l : List UInt8) (b : UInt8) : cv (l ++ [b]) = cv l * 10 + digV b := by
  unfold cv
  rw [List.foldl_append]
  rfl
theorem cv_foldl (l : List UInt8) : ∀ n, l.foldl (fun n b => n * 10 + digV b) n = n * 10 ^ l.length + cv l := by
  induction l with
  | nil => intro n; simp [cv]
  | cons a l ih =>
    intro n
    have h1 : cv (a :: l) = digV a * 10 ^ l.length + cv l := by
      unfold cv
      rw [List.foldl_cons, Nat.zero_mul, Nat.zero_add]
      exact ih _
    rw [List.foldl_cons, ih, h1, List.length_cons, Nat.pow_succ, Nat.add_mul, Nat.mul_assoc n 10, Nat.mul_comm 10, Nat.add_assoc]
theorem cv_append (l m : List UInt8) : cv (l ++ m) = cv l * 10 ^ m.length + cv m := by
  show (l ++ m).foldl _ 0 = _
  rw [List.foldl_append]
  exact cv_foldl m _
theorem digV_le {b : UInt8} (h : digB b = true) : digV b ≤ 9 ∧ (b.toNat : Int) = digV b + 48 := by
  unfold digB at h
  unfold digV
  simp only [Bool.and_eq_true, decide_eq_true_eq] at h
  omega
theorem cv_lt : ∀ {l : List UInt8}, l.all digB = true → cv l < 10 ^ l.length := by
  intro l
  induction l with
  | nil => intro _; simp [cv]
  | cons a l ih =>
    intro h
    rw [List.all_cons, Bool.and_eq_true] at h
    have h1 := digV_le h.1
    have h2 := ih h.2
    have h3 : cv (a :: l) = digV a * 10 ^ l.length + cv l := by
      have := cv_append [a] l
      rw [List.singleton_append] at this
      rw [this]
      simp [cv]
    rw [h3, List.length_cons, Nat.pow_succ, Nat.mul_comm]
    have h4 : 10 ^ l.length * digV a ≤ 10 ^ l.length * 9 := Nat.mul_le_mul_left _ h1.1
    omega
theorem all_take {l : List UInt8} {p : UInt8 → Bool} (h : l.all p = true) (k : Nat) : (l.take k).all p = true := List.all_eq_true.2 fun x hx => List.all_eq_true.1 h x (List.mem_of_mem_take hx)
theorem all_drop {l : List UInt8} {p : UInt8 → Bool} (h : l.all p = true) (k : Nat) : (l.drop k).all p = true := List.all_eq_true.2 fun x hx => List.all_eq_true.1 h x (List.mem_of_mem_drop hx)
/-- The chunk of nine bytes (at most) that ends at e. -/
def chunk (l : List UInt8) (e : Nat) : List UInt8 := (l.take e).drop (e - 9)
theorem chunk_lt {l : List UInt8} {e : Nat} (h : l.all digB = true) : cv (chunk l e) < 1000000000 := by
  have h1 := cv_lt (all_drop (all_take h e) (e - 9))
  have h2 : (chunk l e).length ≤ 9 := by unfold chunk; rw [List.length_drop, List.length_take]; omega
  have h3 : 10 ^ (chunk l e).length ≤ 10 ^ 9 := Nat.pow_le_pow_right (by decide) h2
  unfold chunk at *
  omega
theorem chunk_cv {l : List UInt8} {e : Nat} (he : 0 < e) (hl : e ≤ l.length) : cv (l.take e) = cv (l.take (e - 9)) * 1000000000 + cv (chunk l e) := by
  have h1 : l.take e = (l.take e).take (e - 9) ++ chunk l e := (List.take_append_drop (e - 9) (l.take e)).symm
  rw [List.take_take, Nat.min_eq_left (by omega)] at h1
  by_cases h9 : 9 ≤ e
  · have h2 : (chunk l e).length = 9 := by unfold chunk; rw [List.length_drop, List.length_take]; omega
    rw [h1, cv_append, h2]
  · have h0 : e - 9 = 0 := by omega
    rw [h0, List.take_zero, List.nil_append] at h1
    rw [h0, List.take_zero, ← h1]
    simp [cv]
def pN (l : List UInt8) : Option Nat := if isDig l && decide (l.length ≤ 540) && !(decide (1 < l.length) && decide (l[0]? = some 48)) then some (cv l) else none
theorem pN_ok {l : List UInt8} {n : Nat} (h : pN l = some n) : l.all digB = true ∧ l.length ≤ 540 ∧ l ≠ [] ∧ n = cv l := by
  unfold pN at h
  split at h
  · rename_i h1
    cases h
    simp only [Bool.and_eq_true, isDig, decide_eq_true_eq, Bool.not_eq_true'] at h1
    obtain ⟨⟨⟨h2, h3⟩, h4⟩, _⟩ := h1
    refine ⟨h3, h4, fun e => by rw [e] at h2; simp at h2, rfl⟩
  · cases h
end Go.Proofs.YtnbefpfijaimjaaGreatDoor
