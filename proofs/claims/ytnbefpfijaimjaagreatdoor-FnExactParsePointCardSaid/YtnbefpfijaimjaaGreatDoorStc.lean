/- Cutting a text, a number's digits, zeros in front. -/
import Derived.Test.YtnbefpfijaimjaaGreatDoorStn
import Derived.Test.YtnbefpfijaimjaaGreatDoorSty
import Derived.Shelf.RegionOpenPlain
namespace Go.Proofs.YtnbefpfijaimjaaGreatDoor
open Go.RowKit
/-- Cut at the first c. -/
def cutC (c : UInt8) : List UInt8 → List UInt8 × List UInt8 × Bool
  | [] => ([], [], false)
  | b :: t => if b = c then ([], t, true) else (b :: (cutC c t).1, (cutC c t).2.1, (cutC c t).2.2)
theorem cutC_miss {c : UInt8} : ∀ {l : List UInt8}, Lib.indexByte l c = -1 → cutC c l = (l, [], false)
  | [], _ => rfl
  | b :: t, h => by
    unfold Lib.indexByte at h
    by_cases hb : b = c
    · subst hb
      simp at h
    · have hb' : (b == c) = false := by simpa using hb
      rw [hb'] at h
      have ht : Lib.indexByte t c = -1 := by
        by_cases h2 : Lib.indexByte t c = -1
        · exact h2
        · have h3 : (Lib.indexByte t c == -1) = false := by simpa using h2
          rw [h3] at h
          have := Lib.indexByte_ge t c
          simp only [Bool.false_eq_true, if_false] at h
          omega
      unfold cutC
      rw [if_neg hb, cutC_miss ht]
theorem cutC_hit {c : UInt8} : ∀ {l : List UInt8} {i : Nat}, Lib.indexByte l c = (i : Int) → i < l.length ∧ cutC c l = (l.take i, l.drop (i + 1), true)
  | [], i, h => by
    unfold Lib.indexByte at h
    omega
  | b :: t, i, h => by
    unfold Lib.indexByte at h
    by_cases hb : b = c
    · subst hb
      simp at h
      obtain rfl : i = 0 := by omega
      exact ⟨by simp, by unfold cutC; rw [if_pos rfl]; rfl⟩
    · have hb' : (b == c) = false := by simpa using hb
      rw [hb'] at h
      by_cases h2 : Lib.indexByte t c = -1
      · rw [h2] at h
        simp only [Bool.false_eq_true, if_false, beq_self_eq_true, if_true] at h
        omega
      · have h3 : (Lib.indexByte t c == -1) = false := by simpa using h2
        rw [h3] at h
        have h4 := Lib.indexByte_ge t c
        simp only [Bool.false_eq_true, if_false] at h
        have h5 : 0 < i := by
          rcases Nat.eq_zero_or_pos i with h0 | h0
          · subst h0; simp at h; omega
          · exact h0
        obtain ⟨j, rfl⟩ : ∃ j, i = j + 1 := ⟨i - 1, by omega⟩
        obtain ⟨k1, k2⟩ := cutC_hit (c := c) (l := t) (i := j) (by omega)
        refine ⟨by simp; omega, ?_⟩
        unfold cutC
        rw [if_neg hb, k2]
        rfl
theorem index_one (l : List UInt8) (c : UInt8) (w : World) : Calls Tryz.prog 84 #[.string (sB l), .string ⟨#[c]⟩] w fun e w' => e = .returned (.int .i64 (Lib.indexByte l c)) ∧ w' = w := by
  have h := Any.stringslite_Index_one laysIndex (sB l) c w
  rw [sB_data] at h
  exact h
set_option maxHeartbeats 800000 in
theorem lite_Cut (l : List UInt8) (c : UInt8) (w : World) (hl : l.length ≤ 1048576) :
    Calls Tryz.prog 44 #[.string (sB l), .string ⟨#[c]⟩] w fun e w' => e = .returned (.tuple #[.string (sB (cutC c l).1), .string (sB (cutC c l).2.1), .bool (cutC c l).2.2]) ∧ More w w' := by
  obtain ⟨n, hn⟩ : ∃ n, n = l.length := ⟨_, rfl⟩
  have hs : (sB l).size = n := by rw [sB_size, hn]
  have hc1 : (⟨#[c]⟩ : ByteArray).size = 1 := rfl
  have HN := Lib.hid hn; clear hn
  rw [← HN.out] at hl
  have hge := Lib.indexByte_ge l c
  by_cases h0 : Lib.indexByte l c = -1
  · have H0 := Lib.hid h0; clear h0
    go_enter Tryz.func44, Tryz.ntmps44
    go_wp2_with (go_at_call 84; refine (index_one l c _).mono ?_; rintro e w1 ⟨rfl, rfl⟩; rw [H0.out])
    go_ret3
    exact ⟨by rw [cutC_miss H0.out]; rfl, mC⟩
  · obtain ⟨i, hi⟩ : ∃ i : Nat, Lib.indexByte l c = (i : Int) := ⟨(Lib.indexByte l c).toNat, by omega⟩
    obtain ⟨hil, hcut⟩ := cutC_hit hi
    have HI := Lib.hid hi; have HC := Lib.hid hcut
    rw [← HN.out] at hil
    clear hge h0 hi hcut
    have mixed := laysIndex.mixed
    have c0 : (0 : Int) ≤ (i : Int) + 1 := by omega
    have c1 : (0 : Int) ≤ (i : Int) := by omega
    have c2 : (i : Int) ≤ (n : Int) := by omega
    have c3 : (i : Int) + 1 ≤ (n : Int) := by omega
    have e1 : (sB l).extract 0 i = sB (l.take i) := by rw [sB_extract, List.drop_zero]
    have e2 : (sB l).extract (i + 1) n = sB (l.drop (i + 1)) := by rw [sB_extract, HN.out, List.take_length]
    have hwk : IntKind.i64.wrap ((i : Int) + 1) = ((i + 1 : Nat) : Int) := by rw [IntWalk.i64_in _ (by omega)]; omega
    go_enter Tryz.func44, Tryz.ntmps44
    go_wp2_with (go_at_call 84; refine (index_one l c _).mono ?_; rintro e w1 ⟨rfl, rfl⟩; rw [HI.out])
    go_region_o
    go_wp2_with fail
    go_ret3
    exact ⟨by rw [HC.out]; rfl, mC⟩
theorem str_Cut (l : List UInt8) (c : UInt8) (w : World) (hl : l.length ≤ 1048576) :
    Calls Tryz.prog 23 #[.string (sB l), .string ⟨#[c]⟩] w fun e w' => e = .returned (.tuple #[.string (sB (cutC c l).1), .string (sB (cutC c l).2.1), .bool (cutC c l).2.2]) ∧ More w w' := by
  go_enter Tryz.func23, Tryz.ntmps23
  go_wp2_with (go_at_call 44; refine (lite_Cut l c _ hl).mono ?_; rintro e w1 ⟨rfl, hb1⟩)
  go_ret3
  exact ⟨rfl, mC⟩
def negB (l : List UInt8) : Bool := decide (l[0]? = some 45)
def absB (l : List UInt8) : List UInt8 := if negB l then l.drop 1 else l
theorem absB_len (l : List UInt8) : (absB l).length ≤ l.length := by
  unfold absB
  split
  · rw [List.length_drop]; omega
  · exact Nat.le_refl _
theorem str_CutPrefix (l : List UInt8) (w : World) :
    Calls Tryz.prog 85 #[.string (sB l), .string ⟨#[45]⟩] w fun e w' => e = .returned (.tuple #[.string (sB (absB l)), .bool (negB l)]) ∧ w' = w := by
  have h := Any.strings_CutPrefix laysCutPrefix (sB l) ⟨#[45]⟩ w
  rw [sB_data] at h
  have h1 : Lib.hasPrefix l (ByteArray.mk #[45]).data.toList = negB l := by
    show List.isPrefixOf [45] l = _
    unfold negB
    cases l with
    | nil => rfl
    | cons a l =>
      show ((45 : UInt8) == a && List.isPrefixOf [] l) = _
      rw [Bool.eq_iff_iff]
      simp [List.isPrefixOf]
      exact ⟨fun h => h.symm, fun h => h.symm⟩
  have h2 : Lib.trimPrefix l (ByteArray.mk #[45]).data.toList = absB l := by
    unfold Lib.trimPrefix
    rw [h1]
    unfold absB
    rfl
  rw [h1, h2] at h
  exact h
theorem grow_more (w : World) (k : Nat) (os : Array Obj) : More w (Go.Sort.grow (w.drewN k) os) := by
  refine Turns.more (⟨rfl, rfl, rfl, ?_, fun j hj _ => ?_, ?_⟩ : Turns [] w (Go.Sort.grow (w.drewN k) os))
  · show w.heap.size ≤ (w.heap ++ os).size
    rw [Array.size_append]
    omega
  · show (w.heap ++ os)[j]? = _
    rw [Array.getElem?_append_left hj]
  · first
    | trivial
    | (show w.drawn ≤ w.drawn + k; omega)
theorem itoa_nat (n : Nat) : Lib.itoa (n : Int) = Lib.decDigits n := by
  unfold Lib.itoa
  rw [if_neg (by omega)]
  rfl
abbrev PowTab (w : World) : Prop := Lib.TabIs Tryz.prog w "internal/strconv.uint64pow10" .u64 Lib.pow10Tab
theorem str_Itoa (n : Nat) (w : World) (h : n ≤ 1000000000) (ht : PowTab w) :
    Calls Tryz.prog 68 #[.int .i64 (n : Int)] w fun e w' => e = .returned (.string (sB (Lib.decDigits n))) ∧ More w w' := by
  have h1 := Any.strconv_Itoa laysItoa (n : Int) (by omega) (by omega) w ht
  rw [itoa_nat] at h1
  refine h1.mono ?_
  rintro e w' ⟨rfl, k, os, rfl⟩
  exact ⟨rfl, grow_more w k os⟩
end Go.Proofs.YtnbefpfijaimjaaGreatDoor
