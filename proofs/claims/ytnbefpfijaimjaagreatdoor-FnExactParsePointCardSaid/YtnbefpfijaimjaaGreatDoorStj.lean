/- SplitAny at one byte: the reference's. -/
import Derived.Test.YtnbefpfijaimjaaGreatDoorStc
import Derived.Deep.QuietTactic
import Derived.Deep.RegionHeld3
namespace Go.Proofs.YtnbefpfijaimjaaGreatDoor
open Go.RowKit
def tStr : Ty (List UInt8) where
  size := 1
  rd _ _ cs b := cs = [.string (sB b)]
  own bs _ cs b := bs = [] ∧ cs = [.string (sB b)]
  len := by rintro _ _ _ _ rfl; rfl
  one := by rintro _ _ _ _ rfl u hu; simp at hu; subst hu; rfl
  keep := fun h _ => h
  own_rd := fun h => h.2
  own_keep := fun h _ => h
  own_lt := by rintro _ _ _ _ ⟨rfl, _⟩ k hk; cases hk
def fStr : Flat tStr where
  enc n := [.string (sB n)]
  ok _ := True
  rd_iff _ _ _ _ := ⟨fun h => ⟨h, trivial⟩, fun h => h.1⟩
  own_iff _ _ _ _ := ⟨fun h => ⟨h.1, h.2, trivial⟩, fun h => ⟨h.1, h.2.1⟩⟩
/-- Cut at every c. -/
def splitC (c : UInt8) : List UInt8 → List (List UInt8)
  | [] => [[]]
  | b :: t => if b = c then [] :: splitC c t else match splitC c t with | h :: r => (b :: h) :: r | [] => [[b]]
theorem splitC_none {c : UInt8} : ∀ {l : List UInt8}, (∀ x ∈ l, x ≠ c) → splitC c l = [l]
  | [], _ => rfl
  | b :: t, h => by
    rw [splitC, if_neg (h b (List.mem_cons_self ..)), splitC_none (fun x hx => h x (List.mem_cons_of_mem _ hx))]
theorem splitC_at {c : UInt8} : ∀ {l m : List UInt8}, (∀ x ∈ l, x ≠ c) → splitC c (l ++ c :: m) = l :: splitC c m
  | [], m, _ => by
    show splitC c (c :: m) = _
    rw [splitC, if_pos rfl]
  | b :: t, m, h => by
    show splitC c (b :: (t ++ c :: m)) = _
    rw [splitC, if_neg (h b (List.mem_cons_self ..)), splitC_at (fun x hx => h x (List.mem_cons_of_mem _ hx))]
theorem splitC_len (c : UInt8) : ∀ l : List UInt8, (splitC c l).length ≤ l.length + 1
  | [] => by simp [splitC]
  | b :: t => by
    have h := splitC_len c t
    unfold splitC
    split
    · simp; omega
    · split
      · rename_i h' r e
        rw [e] at h
        simp at h ⊢
        omega
      · simp
theorem infoStr9 : (Tryz.prog.info? 9).map (fun i => (i.zero, i.size, i.bytes)) = some (some (.string ⟨#[]⟩), 1, 16) := by kernel_rfl
set_option maxRecDepth 8000 in
set_option maxHeartbeats 6400000 in
theorem spec_SplitAny (c : UInt8) (l : List UInt8) (w : World) (hl : l.length ≤ 1048576) :
    Calls Tryz.prog 21 #[.string (sB l), .string ⟨#[c]⟩] w fun e w' => ∃ v', e = .returned v' ∧ More w w' ∧ FlatOwn fStr w.heap.size 9 w' v' (splitC c l) := by
  obtain ⟨i0, hi, hz0, hz1, hz2⟩ := info_parts infoStr9
  obtain ⟨n, hn⟩ : ∃ n, n = l.length := ⟨_, rfl⟩
  have hs : (sB l).size = n := by rw [sB_size, hn]
  have hs1 : (⟨#[c]⟩ : ByteArray).size = 1 := rfl
  have hg1 : ∀ h, (⟨#[c]⟩ : ByteArray)[0]'h = c := fun h => rfl
  have HN := Lib.hid hn; clear hn
  rw [← HN.out] at hl
  go_enter Tryz.func21, Tryz.ntmps21
  go_wp2_with fail
  go_loopw [5, 6, 7] (fun vo vf vi wr => ∃ (f i : Nat) (out : List (List UInt8)), vf = .int .i64 (f : Int) ∧ vi = .int .i64 (i : Int) ∧ f ≤ i ∧ i ≤ n ∧ out.length ≤ i ∧ More w wr ∧ Hid (FlatOwn fStr w.heap.size 9 wr vo out) ∧ Hid (out ++ splitC c (l.drop f) = splitC c l) ∧ Hid (∀ x ∈ (l.take i).drop f, x ≠ c)) (fun _ _ vi _ => n - (intOf vi).toNat)
  case atStart => exact ⟨0, 0, [], rfl, rfl, Nat.le_refl _, Nat.zero_le _, Nat.zero_le _, mC, Lib.hid (FlatOwn.lit (Nat.le_refl _)), Lib.hid rfl, Lib.hid (fun x hx => by simp at hx)⟩
  case round =>
    obtain ⟨f, i, out, rfl, rfl, hfi, hin, hol, hm, HO, HS, HNC⟩ := hrel
    obtain ⟨wo, rfl⟩ : ∃ wo : World, wo = wr := ⟨_, rfl⟩
    have HMW := Lib.hid hm
    have f0 : (0 : Int) ≤ (f : Int) := by omega
    have fi : (f : Int) ≤ (i : Int) := by omega
    by_cases hlt : i < n
    · obtain ⟨a, ha⟩ := sB_at (l := l) (k := i) (by rw [← HN.out]; exact hlt)
      have HAt := Lib.hid ha; clear ha
      have hg : ∀ h, (sB l)[i]'h = a := fun h => sB_get HAt.out h
      have j0 : (0 : Int) ≤ (i : Int) := by omega
      have j1 : (i : Int) < (n : Int) := by omega
      have j2 : (i : Int) ≤ (n : Int) := by omega
      have hext : (sB l).extract f i = sB ((l.take i).drop f) := sB_extract _ _ _
      have k1 : IntKind.i64.wrap ((i : Int) + 1) = ((i + 1 : Nat) : Int) := by rw [IntWalk.i64_in _ (by omega)]; omega
      go_wp2_with fail
      go_loopw [5, 6, 8] (fun vo vf vk wr => ∃ k : Nat, vf = .int .i64 (f : Int) ∧ vk = .int .i64 (k : Int) ∧ k ≤ 1 ∧ More wo wr ∧ Hid (FlatOwn fStr w.heap.size 9 wr vo out) ∧ Hid (k = 1 → a ≠ c)) (fun _ _ vk _ => 1 - (intOf vk).toNat)
      case atStart => exact ⟨0, rfl, rfl, by omega, mC, HO, Lib.hid (fun h => by omega)⟩
      case round =>
        obtain ⟨k, rfl, rfl, hk1, hm2, HO2, HK⟩ := hrel
        have HM2 := Lib.hid (More.trans HMW.out hm2)
        by_cases hk : k = 0
        · subst hk
          by_cases hac : a = c
          · have heq : ((a.toNat : Int) == (c.toNat : Int)) = true := by rw [hac]; simp
            have HAC := Lib.hid hac; clear hac
            go_wp2_with fail
            go_quiet (fail)
            generalize hq : World.drewN wr _ = wq
            have hmq : More wr wq := by rw [← hq]; exact mC
            clear hq
            have HOq := Lib.hid (HO2.out.more hmq)
            have HBq := Lib.hid (More.size (More.trans HM2.out hmq))
            go_wp2_with (at_builtin; go_loud (refine wpList_pushFlat fStr wq rfl _ _ 49 rfl w.heap.size 9 i0 (.string ⟨#[]⟩) 16 Tryz.underlying49 hi hz0 hz1 hz2 rfl (by decide) rfl HOq.out mC rfl (by simp) (y := (l.take i).drop f) rfl trivial (Lib.hid (by omega)) (by decide) (Lib.hid HBq.out) ?_))
            intro v4 w4 hl4 hm4
            have hw4 : More w w4 := hm4 w rfl (More.trans HM2.out mC)
            have HL4 := Lib.hid hl4; clear hl4 hm4
            go_wp2_with fail
            go_roundw
            case rel => exact ⟨i + 1, i + 1, out ++ [(l.take i).drop f], by first | rfl | simp, by first | rfl | simp, Nat.le_refl _, by omega, by rw [List.length_append, List.length_singleton]; omega, hw4, HL4, Lib.hid (by
              rw [← HS.out, List.append_assoc]
              congr 1
              have e1 : l.drop f = (l.take i).drop f ++ c :: l.drop (i + 1) := by
                have e2 : l.drop i = c :: l.drop (i + 1) := by
                  have h9 := HAt.out
                  obtain ⟨hil, hie⟩ := List.getElem?_eq_some_iff.1 h9
                  rw [List.drop_eq_getElem_cons hil, hie, HAC.out]
                rw [← e2]
                conv => lhs; rw [← List.take_append_drop i l]
                rw [List.drop_append_of_le_length (by rw [List.length_take]; have := HN.out; omega)]
              rw [e1, splitC_at HNC.out]
              rfl), Lib.hid (fun x hx => by rw [List.drop_eq_nil_of_le (by rw [List.length_take]; omega)] at hx; simp at hx)⟩
            case measure => simp [intOf]; omega
          · have heq : ((a.toNat : Int) == (c.toNat : Int)) = false := by
              rw [beq_eq_false_iff_ne]
              intro h
              exact hac (UInt8.toNat_inj.1 (by omega))
            have HAC := Lib.hid hac; clear hac
            go_wp2_with fail
            go_quiet (fail)
            go_wp2_with fail
            go_roundw
            case rel => exact ⟨1, rfl, rfl, Nat.le_refl _, mC, Lib.hid (HO2.out.more mC), Lib.hid (fun _ => HAC.out)⟩
            case measure => simp [intOf]
        · obtain rfl : k = 1 := by omega
          have HK1 := Lib.hid (HK.out rfl)
          go_wp2_with fail
          go_roundw
          case rel => exact ⟨f, i + 1, out, rfl, by first | rfl | simp, by omega, by omega, by omega, HM2.out, HO2, HS, Lib.hid (fun x hx => by
            rw [List.take_add_one, HAt.out, List.drop_append_of_le_length (by rw [List.length_take]; have := HN.out; omega)] at hx
            rcases List.mem_append.1 hx with h9 | h9
            · exact HNC.out x h9
            · simp at h9
              rw [h9]
              exact HK1.out)⟩
          case measure => simp [intOf]; omega
    · obtain rfl : i = n := by omega
      have j1 : ¬ (i : Int) < (i : Int) := by omega
      have hext : (sB l).extract f i = sB (l.drop f) := by rw [sB_extract, HN.out, List.take_length]
      have HL9 : Hid (splitC c (l.drop f) = [l.drop f]) := Lib.hid (splitC_none (by have h9 := HNC.out; rw [HN.out, List.take_length] at h9; exact h9))
      have HBo := Lib.hid HMW.out.size
      go_wp2_with (at_builtin; go_loud (refine wpList_pushFlat fStr wo rfl _ _ 49 rfl w.heap.size 9 i0 (.string ⟨#[]⟩) 16 Tryz.underlying49 hi hz0 hz1 hz2 rfl (by decide) rfl HO.out mC rfl (by simp) (y := l.drop f) rfl trivial (Lib.hid (by omega)) (by decide) (Lib.hid HBo.out) ?_))
      intro v4 w4 hl4 hm4
      have hw4 : More w w4 := hm4 w rfl (More.trans HMW.out mC)
      have HL4 := Lib.hid hl4; clear hl4 hm4
      go_wp2_with fail
      go_ret
      exact ⟨_, rfl, hw4, by have h9 := HL4.out; rw [← HL9.out, HS.out] at h9; exact h9⟩
end Go.Proofs.YtnbefpfijaimjaaGreatDoor
