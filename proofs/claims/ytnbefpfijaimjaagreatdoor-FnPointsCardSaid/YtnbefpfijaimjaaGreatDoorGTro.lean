/- Several texts laid together; each has its own word at its head. -/
import Derived.Test.YtnbefpfijaimjaaGreatDoorGNatA
import Derived.Test.YtnbefpfijaimjaaGreatDoorApp
import Derived.Test.YtnbefpfijaimjaaGreatDoorGVec
import Derived.Test.YtnbefpfijaimjaaGreatDoorGStd
import Derived.Deep.RegionHeld3
import Derived.IntWalk
import Derived.Laws.IdiomStrings
/- Trimming a list of limbs that the call owns. -/
namespace Go.Proofs.YtnbefpfijaimjaaGreatDoor
open Go.RowKit
theorem FlatOwn.takeP {α : Type} {S : Ty α} {F : Flat S} {B : Nat} {e : TypeId} {w : World} {a : Option Addr} {n cap : Nat} {l : List α} (h : FlatOwn F B e w (.slice a n cap) l) (hF : ∀ x ∈ l, (F.enc x).length = S.size) {m : Nat} (hm : m ≤ n) (h0 : 0 < n) : FlatOwn F B e w (.slice a m cap) (l.take m) := by
  have hn : n = l.length := by obtain ⟨_, _, e9⟩ := h.len; cases e9; rfl
  obtain ⟨⟨h1, h2⟩, h3⟩ := h
  refine ⟨⟨length_flatMap_chunk _ (fun y hy => hF y (List.mem_of_mem_take hy)), ?_⟩, fun x hx => h3 x (List.mem_of_mem_take hx)⟩
  rcases h2 with ⟨e1, e2⟩ | ⟨g, cap', cur, e1, q1, q2, q3, q4, q5, q6⟩
  · omega
  · cases e1
    rw [List.length_take, Nat.min_eq_left (by omega)]
    refine .inr ⟨g, cap, cur, rfl, q1, q2, by omega, q4, q5, ?_⟩
    have e7 : l.flatMap F.enc = (l.take m).flatMap F.enc ++ (l.drop m).flatMap F.enc := by rw [← List.flatMap_append, List.take_append_drop]
    have e8 : ((l.take m).flatMap F.enc).length = m * S.size := by
      rw [length_flatMap_chunk _ (fun y hy => hF y (List.mem_of_mem_take hy)), List.length_take, Nat.min_eq_left (by omega)]
    have e9 := congrArg (List.take (m * S.size)) q6
    rw [List.take_take, Nat.min_eq_left (Nat.mul_le_mul_right _ (by omega)), e7, List.take_left' e8] at e9
    exact e9
theorem FlatOwn.takeI {B : Nat} {e : TypeId} {w : World} {a : Option Addr} {n cap : Nat} {l : List Int} (h : FlatOwn fInt B e w (.slice a n cap) l) {m : Nat} (hm : m ≤ n) : FlatOwn fInt B e w (.slice a m cap) (l.take m) := by
  by_cases h0 : 0 < n
  · exact FlatOwn.takeP h (fun x _ => rfl) hm h0
  · have hn : n = l.length := by obtain ⟨_, _, e9⟩ := h.len; cases e9; rfl
    obtain rfl : m = n := by omega
    rw [List.take_of_length_le (by omega)]
    exact h
set_option maxHeartbeats 1600000 in
theorem impl_trimmedO (B : Nat) (v : Value) (l : List Int) (N : Nat) (w : World) (hv0 : FlatOwn fInt B 3 w v l) (hl : l.length ≤ 1048576) (hok : IsL l) (hval : val l = N) :
    Calls Tryz.prog 88 #[v] w fun e w' => ∃ v', e = .returned v' ∧ More w w' ∧ FlatOwn fInt B 3 w' v' (limbs N) := by
  have hv := hv0.at
  obtain ⟨ao, cap, rfl, k1, k2, k3, -⟩ := slRd_at hv
  have HV0 := Lib.hid hv0; clear hv0
  have HV := Lib.hid hv; have HOK := Lib.hid hok; have HVAL := Lib.hid hval; clear hv hok hval
  have hcap : cap ≤ 9223372036854775807 := by unfold maxLen at k2; omega
  clear k2
  obtain ⟨n, hn⟩ : ∃ n, n = l.length := ⟨_, rfl⟩
  rw [← hn] at HV HV0 hl k1 ⊢
  have HN := Lib.hid hn; clear hn
  go_enter Tryz.func88, Tryz.ntmps88
  go_wp2_with fail
  go_loopw [3] (fun i wr => ∃ m : Nat, m ≤ n ∧ i = .int .i64 m ∧ More w wr ∧ Hid (∀ j, m ≤ j → j < n → l.getD j 0 = 0)) (fun i _ => (intOf i).toNat)
  case atStart => exact ⟨n, Nat.le_refl _, rfl, More.refl _, Lib.hid (fun j h1 h2 => by omega)⟩
  case round =>
    obtain ⟨m, hmn, rfl, hm, HZ⟩ := hrel
    by_cases h0 : 0 < m
    · have hi0 : (0 : Int) < (m : Int) := by omega
      have hi1 : (m : Int) - 1 < (n : Int) := by omega
      have hi2 : (0 : Int) ≤ (m : Int) - 1 := by omega
      have hwk : IntKind.i64.wrap ((m : Int) - 1) = (m : Int) - 1 := IntWalk.i64_in _ (by omega)
      have e9 : ((m : Int) - 1).toNat = m - 1 := by omega
      obtain ⟨b, off, x, rfl, hblt, hx, ox, c0⟩ := int_el (Ty.at_more HV.out hm) (k := m - 1) (by rw [← HN.out]; omega)
      have HX := Lib.hid hx; clear hx ox
      by_cases hz : x = 0
      · subst hz
        go_wp2_with fail
        go_roundw
        case rel => exact ⟨m - 1, by omega, by go_num, mC, Lib.hid (fun j h1 h2 => by
          by_cases hj : j = m - 1
          · subst hj; rw [List.getD_eq_getElem?_getD, HX.out]; rfl
          · exact HZ.out j (by omega) h2)⟩
        case measure => simp [intOf]; omega
      · have hz' : (x == 0) = false := by simp [hz]
        go_wp2_with fail
        go_ret
        refine ⟨_, rfl, mC, ?_⟩
        have h2 := trim_limbs HOK.out HVAL.out (m := m) (by rw [← HN.out]; exact hmn) (fun j h1 h2 => HZ.out j h1 (by rw [HN.out]; exact h2)) (.inr (by rw [List.getD_eq_getElem?_getD, HX.out]; exact hz))
        rw [← h2]
        exact FlatOwn.takeI (HV0.out.more mC) hmn
    · have hi0 : ¬ (0 : Int) < (m : Int) := by omega
      have hm0 : m = 0 := by omega
      subst hm0
      go_wp2_with fail
      go_ret
      refine ⟨_, rfl, mC, ?_⟩
      have h2 := trim_limbs HOK.out HVAL.out (m := 0) (by omega) (fun j h1 h2 => HZ.out j h1 (by rw [HN.out]; exact h2)) (.inl rfl)
      rw [← h2]
      exact FlatOwn.takeI (HV0.out.more mC) hmn
set_option maxHeartbeats 1600000 in
theorem spec_l02TrimO (B : Nat) (v : Value) (l : List Int) (N : Nat) (w : World) (hv0 : FlatOwn fInt B 3 w v l) (hl : l.length ≤ 1048576) (hok : IsL l) (hval : val l = N) :
    Calls Tryz.prog 79 #[v] w fun e w' => ∃ v', e = .returned v' ∧ More w w' ∧ FlatOwn fInt B 3 w' v' (limbs N) := by
  have hv := hv0.at
  obtain ⟨ao, cap, rfl, k1, k2, k3, -⟩ := slRd_at hv
  have HV0 := Lib.hid hv0; clear hv0
  have HV := Lib.hid hv; have HOK := Lib.hid hok; have HVAL := Lib.hid hval; clear hv hok hval
  have hcap : cap ≤ 9223372036854775807 := by unfold maxLen at k2; omega
  clear k2
  obtain ⟨n, hn⟩ : ∃ n, n = l.length := ⟨_, rfl⟩
  rw [← hn] at HV HV0 hl k1 ⊢
  have HN := Lib.hid hn; clear hn
  go_enter Tryz.func79, Tryz.ntmps79
  go_wp2_with fail
  go_loopw [3] (fun i wr => ∃ m : Nat, m ≤ n ∧ i = .int .i64 m ∧ More w wr ∧ Hid (∀ j, m ≤ j → j < n → l.getD j 0 = 0)) (fun i _ => (intOf i).toNat)
  case atStart => exact ⟨n, Nat.le_refl _, rfl, More.refl _, Lib.hid (fun j h1 h2 => by omega)⟩
  case round =>
    obtain ⟨m, hmn, rfl, hm, HZ⟩ := hrel
    by_cases h0 : 0 < m
    · have hi0 : (0 : Int) < (m : Int) := by omega
      have hi1 : (m : Int) - 1 < (n : Int) := by omega
      have hi2 : (0 : Int) ≤ (m : Int) - 1 := by omega
      have hwk : IntKind.i64.wrap ((m : Int) - 1) = (m : Int) - 1 := IntWalk.i64_in _ (by omega)
      have e9 : ((m : Int) - 1).toNat = m - 1 := by omega
      obtain ⟨b, off, x, rfl, hblt, hx, ox, c0⟩ := int_el (Ty.at_more HV.out hm) (k := m - 1) (by rw [← HN.out]; omega)
      have HX := Lib.hid hx; clear hx ox
      by_cases hz : x = 0
      · subst hz
        go_wp2_with fail
        go_roundw
        case rel => exact ⟨m - 1, by omega, by go_num, mC, Lib.hid (fun j h1 h2 => by
          by_cases hj : j = m - 1
          · subst hj; rw [List.getD_eq_getElem?_getD, HX.out]; rfl
          · exact HZ.out j (by omega) h2)⟩
        case measure => simp [intOf]; omega
      · have hz' : (x == 0) = false := by simp [hz]
        go_wp2_with fail
        go_ret
        refine ⟨_, rfl, mC, ?_⟩
        have h2 := trim_limbs HOK.out HVAL.out (m := m) (by rw [← HN.out]; exact hmn) (fun j h1 h2 => HZ.out j h1 (by rw [HN.out]; exact h2)) (.inr (by rw [List.getD_eq_getElem?_getD, HX.out]; exact hz))
        rw [← h2]
        exact FlatOwn.takeI (HV0.out.more mC) hmn
    · have hi0 : ¬ (0 : Int) < (m : Int) := by omega
      have hm0 : m = 0 := by omega
      subst hm0
      go_wp2_with fail
      go_ret
      refine ⟨_, rfl, mC, ?_⟩
      have h2 := trim_limbs HOK.out HVAL.out (m := 0) (by omega) (fun j h1 h2 => HZ.out j h1 (by rw [HN.out]; exact h2)) (.inl rfl)
      rw [← h2]
      exact FlatOwn.takeI (HV0.out.more mC) hmn
end Go.Proofs.YtnbefpfijaimjaaGreatDoor
/- ParseNat: the reference's and the program's. -/
namespace Go.Proofs.YtnbefpfijaimjaaGreatDoor
open Go.RowKit
theorem infoIntQ : (Tryz.prog.info? 3).map (fun i => (i.zero, i.size, i.bytes)) = some (some (.int .i64 0), 1, 8) := by kernel_rfl
theorem FlatOwn_zero {B : Nat} {e : TypeId} {w : World} : FlatOwn fInt B e w (.slice none 0 0) (limbs 0) := by rw [limbs_zero]; exact FlatOwn.none
theorem conv_bytes (P : Program) (w : World) (src dst e : TypeId) (l : List UInt8) (hs : P.underlying src = some .string) (hd : P.underlying dst = some (.slice e)) (he : P.underlying e = some (.int .u8)) :
    ∃ cap BW, (convert src dst (.string (sB l))).run P w = .ok (.slice (some ⟨w.heap.size, 0, none⟩) l.length cap) BW ∧ More w BW ∧ w.heap.size < BW.heap.size ∧ ∀ j c, l[j]? = some c → BW.cell? ⟨w.heap.size, j, none⟩ = some (.int .u8 (c.toNat : Int)) := by
  have h := run_bytes_of_string w src dst e (sB l) hs hd he
  rw [sB_size] at h
  refine ⟨_, _, h, Turns.more (((Turns.refl [] w).drew).alloc _), ?_, fun j c hj => ?_⟩
  · show w.heap.size < (w.heap.push _).size
    rw [Array.size_push]
    omega
  · have hl := (List.getElem?_eq_some_iff.1 hj).1
    rw [cell_of_row _ w.heap.size _ _ _ _ (heap_alloc_new w.drew _)]
    unfold bytesRow
    rw [Array.getElem?_append_left (by show j < (Array.map _ (sB l).data).size; rw [Array.size_map]; show j < l.toArray.size; simpa using hl), Array.getElem?_map]
    show Option.map _ l.toArray[j]? = _
    simp [hj]
set_option maxRecDepth 4000 in
set_option maxHeartbeats 3200000 in
theorem spec_ParseNat (l : List UInt8) (w : World) (hl : l.length ≤ 1048576) :
    Calls Tryz.prog 42 #[.string (sB l)] w fun e w' => ∃ v', e = .returned (.tuple #[v', .bool (pN l).isSome]) ∧ More w w' ∧ FlatOwn fInt w.heap.size 3 w' v' (limbs ((pN l).getD 0)) := by
  obtain ⟨i0, hi, hz0, hz1, hz2⟩ := info_parts infoIntQ
  obtain ⟨n, hn⟩ : ∃ n, n = l.length := ⟨_, rfl⟩
  have hs : (sB l).size = n := by rw [sB_size, hn]
  have HN := Lib.hid hn; clear hn
  rw [← HN.out] at hl
  rcases Bool.eq_false_or_eq_true (isDig l) with hd | hd
  rotate_left
  · have HD := Lib.hid hd
    have HP : Hid (pN l = none) := Lib.hid (by unfold pN; rw [hd]; rfl)
    clear hd
    go_enter Tryz.func42, Tryz.ntmps42
    go_wp2_with (go_at_call 78; refine (spec_IsDigits l _ (by rw [← HN.out]; exact hl)).mono ?_; rintro e w1 ⟨rfl, hb1⟩; rw [HD.out])
    go_ret2
    exact ⟨.slice none 0 0, by rw [HP.out]; rfl, mC, by rw [HP.out]; exact FlatOwn_zero⟩
  have HD := Lib.hid hd; clear hd
  by_cases h540 : n ≤ 540
  rotate_left
  · have h540' : (540 : Int) < (n : Int) := by omega
    have HP : Hid (pN l = none) := Lib.hid (by unfold pN; rw [HD.out, decide_eq_false (by rw [← HN.out]; exact h540)]; rfl)
    go_enter Tryz.func42, Tryz.ntmps42
    go_wp2_with (go_at_call 78; refine (spec_IsDigits l _ (by rw [← HN.out]; exact hl)).mono ?_; rintro e w1 ⟨rfl, hb1⟩; rw [HD.out])
    go_ret2
    exact ⟨.slice none 0 0, by rw [HP.out]; rfl, mC, by rw [HP.out]; exact FlatOwn_zero⟩
  have h540' : ¬ (540 : Int) < (n : Int) := by omega
  obtain ⟨c0, hc0⟩ : ∃ c0, l[0]? = some c0 := by
    cases l with
    | nil => have := HD.out; simp [isDig] at this
    | cons a l => exact ⟨a, rfl⟩
  have HC0 := Lib.hid hc0; clear hc0
  have hg0 : ∀ h, (sB l)[0]'h = c0 := fun h => sB_get HC0.out h
  by_cases hz : 1 < n ∧ c0 = 48
  · obtain ⟨h1, rfl⟩ := hz
    have h1' : (1 : Int) < (n : Int) := by omega
    have HP : Hid (pN l = none) := Lib.hid (by unfold pN; rw [HD.out, HC0.out, decide_eq_true (p := l.length ≤ 540) (by rw [← HN.out]; exact h540), decide_eq_true (p := 1 < l.length) (by rw [← HN.out]; exact h1)]; rfl)
    go_enter Tryz.func42, Tryz.ntmps42
    go_wp2_with (go_at_call 78; refine (spec_IsDigits l _ (by rw [← HN.out]; exact hl)).mono ?_; rintro e w1 ⟨rfl, hb1⟩; rw [HD.out])
    go_ret2
    exact ⟨.slice none 0 0, by rw [HP.out]; rfl, mC, by rw [HP.out]; exact FlatOwn_zero⟩
  have HP : Hid (pN l = some (cv l)) := Lib.hid (by
    unfold pN
    rw [HD.out, HC0.out, decide_eq_true (p := l.length ≤ 540) (by rw [← HN.out]; exact h540)]
    by_cases h1 : 1 < l.length
    · have : c0 ≠ 48 := fun e => hz ⟨by rw [HN.out]; exact h1, e⟩
      simp [h1, this]
    · simp [h1])
  have HAll : Hid (l.all digB = true) := Lib.hid (pN_ok HP.out).1
  have hz' : 1 < n → (c0.toNat : Int) ≠ 48 := fun h1 e => hz ⟨h1, by
    have : c0.toNat = 48 := by omega
    exact UInt8.toNat_inj.1 this⟩
  clear hz
  have HF9 : Hid (∀ k : Nat, ((9 * k : Nat) : Int) = 9 * k) := Lib.hid (fun k => by omega)
  have hn1 : n ≠ 1 ∨ True := .inr trivial
  rcases Nat.lt_or_ge 1 n with h1 | h1
  all_goals
    have h1' : ((1 : Int) < (n : Int) ∧ (c0.toNat : Int) ≠ 48) ∨ ¬ (1 : Int) < (n : Int) := by first | exact .inr (by omega) | exact .inl ⟨by omega, hz' h1⟩
    rcases h1' with ⟨h1', h48⟩ | h1'
    all_goals first | (exfalso; omega) | skip
    all_goals
      (try (have h48b : ((c0.toNat : Int) == 48) = false := by simpa using h48))
      clear hz'
      go_enter Tryz.func42, Tryz.ntmps42
      go_wp2_with (go_at_call 78; refine (spec_IsDigits l _ (by rw [← HN.out]; exact hl)).mono ?_; rintro e w1 ⟨rfl, hb1⟩; rw [HD.out])
      go_loopw [4, 5] (fun vo ve wr => ∃ (k : Nat) (E : Int) (out : List Int), ve = .int .i64 E ∧ E = (n : Int) - 9 * (k : Int) ∧ -9 < E ∧ More w wr ∧ Hid (out.length = k) ∧ Hid (FlatOwn fInt w.heap.size 3 wr vo out) ∧ Hid (IsL out) ∧ Hid (val out + bp k * (cv (l.take (n - 9 * k)) : Int) = (cv l : Int))) (fun _ ve _ => (intOf ve).toNat)
      case atStart => exact ⟨0, n, [], rfl, by omega, by omega, mC, Lib.hid rfl, Lib.hid (FlatOwn.lit (More.size (show More w _ from mC))), Lib.hid IsL.nil, Lib.hid (by rw [Nat.mul_zero, Nat.sub_zero, HN.out, List.take_length]; simp [val, bp])⟩
      case round =>
        obtain ⟨k, E, out, rfl, hE, hE9, hm, HOL, HO, HIS, HVL⟩ := hrel
        have HE := Lib.hid hE
        by_cases hpos : 0 < E
        · obtain ⟨e, rfl⟩ : ∃ e : Nat, E = (e : Int) := ⟨E.toNat, by omega⟩
          have hen : e ≤ n := by omega
          have hek : n - 9 * k = e := by omega
          obtain ⟨a, ha⟩ : ∃ a, a = e - 9 := ⟨_, rfl⟩
          have HA := Lib.hid ha
          have hae : a < e := by omega
          have ha9 : e ≤ a + 9 := by omega
          have hk60 : k ≤ 60 := by omega
          clear hE ha
          obtain ⟨wo, rfl⟩ : ∃ wo : World, wo = wr := ⟨_, rfl⟩
          have HMW := Lib.hid hm
          have hfrom : (IntKind.i64.wrap ((e : Int) - 9) = (e : Int) - 9 ∧ (e : Int) - 9 < 0 ∧ a = 0) ∨ (IntKind.i64.wrap ((e : Int) - 9) = (a : Int) ∧ ¬ (a : Int) < 0) := by
            have ha := HA.out
            rw [IntWalk.i64_in _ (by omega)]
            omega
          rcases hfrom with ⟨hwk, hneg, ha0⟩ | ⟨hwk, hneg⟩
          all_goals go_wp2_with fail
          all_goals
            go_loopw [7, 8] (fun vn vi wr2 => ∃ i x : Nat, vi = .int .i64 (i : Int) ∧ vn = .int .i64 (x : Int) ∧ a ≤ i ∧ i ≤ e ∧ x < 1000000000 ∧ More wo wr2 ∧ Hid (x = cv ((chunk l e).take (i - a)))) (fun _ vi _ => e - (intOf vi).toNat)
            case atStart => exact ⟨a, 0, by first | rfl | (congr 1; omega) | simp [*], rfl, Nat.le_refl _, by omega, by decide, mC, Lib.hid (by rw [Nat.sub_self, List.take_zero]; rfl)⟩
            case round =>
              obtain ⟨i, x, rfl, rfl, hai, hie, hx9, hm2, HX⟩ := hrel
              by_cases hj : i < e
              · obtain ⟨c, hc⟩ := sB_at (l := l) (k := i) (by rw [← HN.out]; omega)
                have HC := Lib.hid hc; clear hc
                have hg1 : ∀ h, (sB l)[i]'h = c := fun h => sB_get HC.out h
                obtain ⟨d, hd⟩ : ∃ d, d = digV c := ⟨_, rfl⟩
                obtain ⟨hd9, hcd⟩ := digV_le (List.all_eq_true.1 HAll.out c (List.mem_of_getElem? HC.out))
                rw [← hd] at hd9 hcd
                have HDd := Lib.hid hd; clear hd
                have hi0 : (0 : Int) ≤ (i : Int) := by omega
                have hi1 : (i : Int) < (n : Int) := by omega
                have hi2 : (i : Int) < (e : Int) := by omega
                have m1 : IntKind.i64.wrap ((x : Int) * 10) = (x : Int) * 10 := IntWalk.i64_in _ (by omega)
                have m2 : IntKind.i64.wrap ((d : Int) + 48) = (d : Int) + 48 := IntWalk.i64_in _ (by omega)
                have m3 : IntKind.i64.wrap ((x : Int) * 10 + ((d : Int) + 48)) = (x : Int) * 10 + ((d : Int) + 48) := IntWalk.i64_in _ (by omega)
                have m4 : IntKind.i64.wrap ((x : Int) * 10 + ((d : Int) + 48) - 48) = ((x * 10 + d : Nat) : Int) := by rw [IntWalk.i64_in _ (by omega)]; omega
                have HX2 : Hid (x * 10 + d = cv ((chunk l e).take (i + 1 - a))) := Lib.hid (by
                  have h1 : (chunk l e)[i - a]? = some c := by unfold chunk; rw [List.getElem?_drop, List.getElem?_take, if_pos (by omega), ← HA.out, show a + (i - a) = i by omega]; exact HC.out
                  rw [show i + 1 - a = (i - a) + 1 by omega, List.take_add_one, h1, HX.out, HDd.out]
                  exact (cv_snoc _ _).symm)
                have hx99 : x * 10 + d < 1000000000 := by
                  rw [HX2.out]
                  have h1 := cv_lt (all_take (p := digB) (l := chunk l e) (all_drop (all_take HAll.out e) (e - 9)) (i + 1 - a))
                  have h2 : ((chunk l e).take (i + 1 - a)).length ≤ 9 := by rw [List.length_take]; unfold chunk; rw [List.length_drop, List.length_take]; omega
                  have h3 := Nat.pow_le_pow_right (n := 10) (by decide) h2
                  omega
                go_wp2_with fail
                go_roundw
                case rel => exact ⟨i + 1, x * 10 + d, by go_num, rfl, by omega, by omega, hx99, mC, HX2⟩
                case measure => simp [intOf]; omega
              · obtain rfl : i = e := by omega
                have hi2 : ¬ (i : Int) < (i : Int) := by omega
                have H64 : Hid (In64 (x : Int)) := Lib.hid (In64.mk ⟨by omega, by omega⟩)
                have HXC : Hid (x = cv (chunk l i)) := Lib.hid (by
                  have h2 : (chunk l i).length ≤ i - a := by unfold chunk; rw [List.length_drop, List.length_take]; have := HA.out; omega
                  rw [HX.out, List.take_of_length_le h2])
                go_wp2_with (at_builtin; go_loud (refine wpList_pushFlat fInt wo rfl _ _ 22 rfl w.heap.size 3 i0 (.int .i64 0) 8 Tryz.underlying22 hi hz0 hz1 hz2 rfl (by decide) rfl HO.out mC rfl (by simp) (y := (x : Int)) rfl H64.out (Lib.hid (by have := HOL.out; omega)) (by decide) (Lib.hid hm.size) ?_))
                intro v4 w4 hl4 hm4
                have hw4 : More w w4 := hm4 w rfl (More.trans HMW.out mC)
                have HL4 := Lib.hid hl4; clear hl4 hm4
                have hwk9 : IntKind.i64.wrap ((i : Int) - 9) = (i : Int) - 9 := IntWalk.i64_in _ (by omega)
                go_wp2_with fail
                go_roundw
                case rel => exact ⟨k + 1, _, out ++ [(x : Int)], rfl, by have := HE.out; have := HA.out; omega, by have := HA.out; omega, hw4, Lib.hid (by rw [List.length_append, HOL.out]; rfl), HL4, Lib.hid (HIS.out.app (IsL.one ⟨by omega, by omega⟩)), Lib.hid (by
                  have h1 := HVL.out
                  have h2 := chunk_cv (l := l) (e := i) (by omega) (by rw [← HN.out]; exact hen)
                  rw [hek, h2] at h1
                  rw [val_snoc, HOL.out, show n - 9 * (k + 1) = i - 9 by omega, HXC.out, ← h1]
                  show val out + bp k * _ + BB * bp k * _ = _
                  rw [Int.natCast_add, Int.natCast_mul, Int.mul_add]
                  have e1 : bp k * ((cv (List.take (i - 9) l) : Int) * ((1000000000 : Nat) : Int)) = BB * bp k * (cv (List.take (i - 9) l) : Int) := by
                    show _ = (1000000000 : Int) * bp k * _
                    rw [Int.mul_comm (cv _ : Int), ← Int.mul_assoc, Int.mul_comm (bp k)]
                    rfl
                  rw [e1]
                  omega)⟩
                case measure => simp [intOf]; omega
        · have hend : ¬ (0 : Int) < E := hpos
          have HV9 : Hid (val out = (cv l : Int)) := Lib.hid (by
            have h1 := HVL.out
            rw [show n - 9 * k = 0 by omega, List.take_zero] at h1
            simpa [cv] using h1)
          go_wp2_with fail
          refine (spec_l02TrimO w.heap.size _ out (cv l) _ (HO.out.more mC) (by have := HOL.out; omega) HIS.out HV9.out).mono ?_
          rintro e w5 ⟨v5, rfl, hb5, f5⟩
          have F5 := Lib.hid f5; clear f5
          go_wp2_with fail
          go_ret2
          exact ⟨v5, by rw [HP.out]; rfl, mC, by rw [HP.out]; exact F5.out.more mC⟩
set_option maxRecDepth 4000 in
set_option maxHeartbeats 3200000 in
theorem impl_ParseNat (l : List UInt8) (w : World) (hl : l.length ≤ 1048576) :
    Calls Tryz.prog 46 #[.string (sB l)] w fun e w' => ∃ v', e = .returned (.tuple #[v', .bool (pN l).isSome]) ∧ More w w' ∧ FlatOwn fInt w.heap.size 3 w' v' (limbs ((pN l).getD 0)) := by
  obtain ⟨i0, hi, hz0, hz1, hz2⟩ := info_parts infoIntQ
  obtain ⟨n, hn⟩ : ∃ n, n = l.length := ⟨_, rfl⟩
  have hs : (sB l).size = n := by rw [sB_size, hn]
  have HN := Lib.hid hn; clear hn
  rw [← HN.out] at hl
  rcases Bool.eq_false_or_eq_true (isDig l) with hd | hd
  rotate_left
  · have HD := Lib.hid hd
    have HP : Hid (pN l = none) := Lib.hid (by unfold pN; rw [hd]; rfl)
    clear hd
    go_enter Tryz.func46, Tryz.ntmps46
    go_wp2_with (go_at_call 87; refine (impl_IsDigits l _ (by rw [← HN.out]; exact hl)).mono ?_; rintro e w1 ⟨rfl, hb1⟩; rw [HD.out])
    go_ret2
    exact ⟨.slice none 0 0, by rw [HP.out]; rfl, mC, by rw [HP.out]; exact FlatOwn_zero⟩
  have HD := Lib.hid hd; clear hd
  by_cases h540 : n ≤ 540
  rotate_left
  · have h540' : (540 : Int) < (n : Int) := by omega
    have HP : Hid (pN l = none) := Lib.hid (by unfold pN; rw [HD.out, decide_eq_false (by rw [← HN.out]; exact h540)]; rfl)
    go_enter Tryz.func46, Tryz.ntmps46
    go_wp2_with (go_at_call 87; refine (impl_IsDigits l _ (by rw [← HN.out]; exact hl)).mono ?_; rintro e w1 ⟨rfl, hb1⟩; rw [HD.out])
    go_ret2
    exact ⟨.slice none 0 0, by rw [HP.out]; rfl, mC, by rw [HP.out]; exact FlatOwn_zero⟩
  have h540' : ¬ (540 : Int) < (n : Int) := by omega
  obtain ⟨c0, hc0⟩ : ∃ c0, l[0]? = some c0 := by
    cases l with
    | nil => have := HD.out; simp [isDig] at this
    | cons a l => exact ⟨a, rfl⟩
  have HC0 := Lib.hid hc0; clear hc0
  have hg0 : ∀ h, (sB l)[0]'h = c0 := fun h => sB_get HC0.out h
  by_cases hz : 1 < n ∧ c0 = 48
  · obtain ⟨h1, rfl⟩ := hz
    have h1' : (1 : Int) < (n : Int) := by omega
    have HP : Hid (pN l = none) := Lib.hid (by unfold pN; rw [HD.out, HC0.out, decide_eq_true (p := l.length ≤ 540) (by rw [← HN.out]; exact h540), decide_eq_true (p := 1 < l.length) (by rw [← HN.out]; exact h1)]; rfl)
    go_enter Tryz.func46, Tryz.ntmps46
    go_wp2_with (go_at_call 87; refine (impl_IsDigits l _ (by rw [← HN.out]; exact hl)).mono ?_; rintro e w1 ⟨rfl, hb1⟩; rw [HD.out])
    go_ret2
    exact ⟨.slice none 0 0, by rw [HP.out]; rfl, mC, by rw [HP.out]; exact FlatOwn_zero⟩
  have HP : Hid (pN l = some (cv l)) := Lib.hid (by
    unfold pN
    rw [HD.out, HC0.out, decide_eq_true (p := l.length ≤ 540) (by rw [← HN.out]; exact h540)]
    by_cases h1 : 1 < l.length
    · have : c0 ≠ 48 := fun e => hz ⟨by rw [HN.out]; exact h1, e⟩
      simp [h1, this]
    · simp [h1])
  have HAll : Hid (l.all digB = true) := Lib.hid (pN_ok HP.out).1
  have hz' : 1 < n → (c0.toNat : Int) ≠ 48 := fun h1 e => hz ⟨h1, by
    have : c0.toNat = 48 := by omega
    exact UInt8.toNat_inj.1 this⟩
  clear hz
  have HF9 : Hid (∀ k : Nat, ((9 * k : Nat) : Int) = 9 * k) := Lib.hid (fun k => by omega)
  have hn1 : n ≠ 1 ∨ True := .inr trivial
  rcases Nat.lt_or_ge 1 n with h1 | h1
  all_goals
    have h1' : ((1 : Int) < (n : Int) ∧ (c0.toNat : Int) ≠ 48) ∨ ¬ (1 : Int) < (n : Int) := by first | exact .inr (by omega) | exact .inl ⟨by omega, hz' h1⟩
    rcases h1' with ⟨h1', h48⟩ | h1'
    all_goals first | (exfalso; omega) | skip
    all_goals
      (try (have h48b : ((c0.toNat : Int) == 48) = false := by simpa using h48))
      clear hz'
      go_enter Tryz.func46, Tryz.ntmps46
      go_wp2_with (go_at_call 87; refine (impl_IsDigits l _ (by rw [← HN.out]; exact hl)).mono ?_; rintro e w1 ⟨rfl, hb1⟩; rw [HD.out])
      go_loopw [4, 5] (fun vo ve wr => ∃ (k : Nat) (E : Int) (out : List Int), ve = .int .i64 E ∧ E = (n : Int) - 9 * (k : Int) ∧ -9 < E ∧ More w wr ∧ Hid (out.length = k) ∧ Hid (FlatOwn fInt w.heap.size 3 wr vo out) ∧ Hid (IsL out) ∧ Hid (val out + bp k * (cv (l.take (n - 9 * k)) : Int) = (cv l : Int))) (fun _ ve _ => (intOf ve).toNat)
      case atStart => exact ⟨0, n, [], rfl, by omega, by omega, mC, Lib.hid rfl, Lib.hid (FlatOwn.lit (More.size (show More w _ from mC))), Lib.hid IsL.nil, Lib.hid (by rw [Nat.mul_zero, Nat.sub_zero, HN.out, List.take_length]; simp [val, bp])⟩
      case round =>
        obtain ⟨k, E, out, rfl, hE, hE9, hm, HOL, HO, HIS, HVL⟩ := hrel
        have HE := Lib.hid hE
        by_cases hpos : 0 < E
        · obtain ⟨e, rfl⟩ : ∃ e : Nat, E = (e : Int) := ⟨E.toNat, by omega⟩
          have hen : e ≤ n := by omega
          have hek : n - 9 * k = e := by omega
          obtain ⟨a, ha⟩ : ∃ a, a = e - 9 := ⟨_, rfl⟩
          have HA := Lib.hid ha
          have hae : a < e := by omega
          have ha9 : e ≤ a + 9 := by omega
          have hk60 : k ≤ 60 := by omega
          clear hE ha
          obtain ⟨wo, rfl⟩ : ∃ wo : World, wo = wr := ⟨_, rfl⟩
          have HMW := Lib.hid hm
          have hcl : (chunk l e).length = e - a := by unfold chunk; rw [List.length_drop, List.length_take]; have := HA.out; have := HN.out; omega
          obtain ⟨cp, BW, hconv, hBW, hBl, hBc⟩ := conv_bytes Tryz.prog wo 9 34 5 (chunk l e) Tryz.underlying9 Tryz.underlying34 Tryz.underlying5
          have HBC := Lib.hid hBc; clear hBc
          rw [hcl] at hconv
          have hfrom : (IntKind.i64.wrap ((e : Int) - 9) = (e : Int) - 9 ∧ (e : Int) - 9 < 0 ∧ a = 0 ∧ (sB l).extract 0 e = sB (chunk l e)) ∨ (IntKind.i64.wrap ((e : Int) - 9) = 0 ∧ a = 0 ∧ (sB l).extract 0 e = sB (chunk l e)) ∨ (IntKind.i64.wrap ((e : Int) - 9) = (a : Int) ∧ (0 : Int) < (a : Int) ∧ (sB l).extract a e = sB (chunk l e)) := by
            have ha := HA.out
            rw [IntWalk.i64_in _ (by omega), sB_extract, sB_extract]
            unfold chunk
            rcases Nat.lt_or_ge e 9 with h9 | h9
            · exact .inl ⟨rfl, by omega, by omega, by rw [show e - 9 = 0 by omega]⟩
            · rcases Nat.lt_or_ge 9 e with h10 | h10
              · exact .inr (.inr ⟨by omega, by omega, by rw [← ha]⟩)
              · exact .inr (.inl ⟨by omega, by omega, by rw [show e - 9 = 0 by omega]⟩)
          rcases hfrom with ⟨hwk, hneg, ha0, hext⟩ | ⟨hwk, ha0, hext⟩ | ⟨hwk, hneg, hext⟩
          all_goals go_wp2_with fail
          all_goals
            go_loopw [6, 42] (fun vn vi wr2 => ∃ i x : Nat, vi = .int .i64 (i : Int) ∧ vn = .int .i64 (x : Int) ∧ i ≤ e - a ∧ x < 1000000000 ∧ More BW wr2 ∧ Hid (x = cv ((chunk l e).take i))) (fun _ vi _ => e - a - (intOf vi).toNat)
            case atStart => exact ⟨0, 0, rfl, rfl, Nat.zero_le _, by decide, More.refl _, Lib.hid rfl⟩
            case round =>
              obtain ⟨i, x, rfl, rfl, hie, hx9, hm2, HX⟩ := hrel
              by_cases hj : i < e - a
              · obtain ⟨c, hc⟩ := sB_at (l := chunk l e) (k := i) (by rw [hcl]; exact hj)
                have HC := Lib.hid hc; clear hc
                have hcell : ∀ w', More wr w' → w'.cell? ⟨wo.heap.size, i, none⟩ = some (.int .u8 c.toNat) := fun w' h => ((bcell (More.trans hm2 h)).1 _ _ hBl).trans (HBC.out i c HC.out)
                have hcell0 := hcell wr (More.refl _)
                obtain ⟨d, hd⟩ : ∃ d, d = digV c := ⟨_, rfl⟩
                obtain ⟨hd9, hcd⟩ := digV_le (List.all_eq_true.1 (all_drop (all_take HAll.out e) (e - 9)) c (List.mem_of_getElem? HC.out))
                rw [← hd] at hd9 hcd
                have HDd := Lib.hid hd; clear hd
                have hi0 : (0 : Int) ≤ (i : Int) := by omega
                have hi1 : (i : Int) < ((e - a : Nat) : Int) := by omega
                have m1 : IntKind.i64.wrap (10 * (x : Int)) = 10 * (x : Int) := IntWalk.i64_in _ (by omega)
                have m2 : IntKind.u8.wrap ((d : Int) + 48 - 48) = (d : Int) := by simp [IntKind.wrap, IntKind.bits, IntKind.signed]; omega
                have m3 : IntKind.i64.wrap (d : Int) = (d : Int) := IntWalk.i64_in _ (by omega)
                have m4 : IntKind.i64.wrap (10 * (x : Int) + (d : Int)) = ((x * 10 + d : Nat) : Int) := by rw [IntWalk.i64_in _ (by omega)]; omega
                have HX2 : Hid (x * 10 + d = cv ((chunk l e).take (i + 1))) := Lib.hid (by
                  rw [List.take_add_one, HC.out, HX.out, HDd.out]
                  exact (cv_snoc _ _).symm)
                have hx99 : x * 10 + d < 1000000000 := by
                  rw [HX2.out]
                  have h1 := cv_lt (all_take (p := digB) (l := chunk l e) (all_drop (all_take HAll.out e) (e - 9)) (i + 1))
                  have h2 : ((chunk l e).take (i + 1)).length ≤ 9 := by rw [List.length_take]; unfold chunk; rw [List.length_drop, List.length_take]; omega
                  have h3 := Nat.pow_le_pow_right (n := 10) (by decide) h2
                  omega
                go_wp2_with fail
                go_roundw
                case rel => exact ⟨i + 1, x * 10 + d, by go_num, rfl, by omega, hx99, mC, HX2⟩
                case measure => simp [intOf]; omega
              · obtain rfl : i = e - a := by omega
                have hi2 : ¬ ((e - a : Nat) : Int) < ((e - a : Nat) : Int) := by omega
                have H64 : Hid (In64 (x : Int)) := Lib.hid (In64.mk ⟨by omega, by omega⟩)
                have HXC : Hid (x = cv (chunk l e)) := Lib.hid (by
                  rw [HX.out, List.take_of_length_le (by rw [hcl]; omega)])
                have hm2 : More wo wr := More.trans hBW hm2
                go_wp2_with (at_builtin; go_loud (refine wpList_pushFlat fInt wo rfl _ _ 22 rfl w.heap.size 3 i0 (.int .i64 0) 8 Tryz.underlying22 hi hz0 hz1 hz2 rfl (by decide) rfl HO.out mC rfl (by simp) (y := (x : Int)) rfl H64.out (Lib.hid (by have := HOL.out; omega)) (by decide) (Lib.hid hm.size) ?_))
                intro v4 w4 hl4 hm4
                have hw4 : More w w4 := hm4 w rfl (More.trans HMW.out mC)
                have HL4 := Lib.hid hl4; clear hl4 hm4
                have hwk9 : IntKind.i64.wrap ((e : Int) - 9) = (e : Int) - 9 := IntWalk.i64_in _ (by omega)
                go_wp2_with fail
                go_roundw
                case rel => exact ⟨k + 1, _, out ++ [(x : Int)], rfl, by have := HE.out; have := HA.out; omega, by have := HA.out; omega, hw4, Lib.hid (by rw [List.length_append, HOL.out]; rfl), HL4, Lib.hid (HIS.out.app (IsL.one ⟨by omega, by omega⟩)), Lib.hid (by
                  have h1 := HVL.out
                  have h2 := chunk_cv (l := l) (e := e) (by omega) (by rw [← HN.out]; exact hen)
                  rw [hek, h2] at h1
                  rw [val_snoc, HOL.out, show n - 9 * (k + 1) = e - 9 by omega, HXC.out, ← h1]
                  show val out + bp k * _ + BB * bp k * _ = _
                  rw [Int.natCast_add, Int.natCast_mul, Int.mul_add]
                  have e1 : bp k * ((cv (List.take (e - 9) l) : Int) * ((1000000000 : Nat) : Int)) = BB * bp k * (cv (List.take (e - 9) l) : Int) := by
                    show _ = (1000000000 : Int) * bp k * _
                    rw [Int.mul_comm (cv _ : Int), ← Int.mul_assoc, Int.mul_comm (bp k)]
                    rfl
                  rw [e1]
                  omega)⟩
                case measure => simp [intOf]; omega
        · have hend : ¬ (0 : Int) < E := hpos
          have HV9 : Hid (val out = (cv l : Int)) := Lib.hid (by
            have h1 := HVL.out
            rw [show n - 9 * k = 0 by omega, List.take_zero] at h1
            simpa [cv] using h1)
          go_wp2_with fail
          refine (impl_trimmedO w.heap.size _ out (cv l) _ (HO.out.more mC) (by have := HOL.out; omega) HIS.out HV9.out).mono ?_
          rintro e w5 ⟨v5, rfl, hb5, f5⟩
          have F5 := Lib.hid f5; clear f5
          go_wp2_with fail
          go_ret2
          exact ⟨v5, by rw [HP.out]; rfl, mC, by rw [HP.out]; exact F5.out.more mC⟩
end Go.Proofs.YtnbefpfijaimjaaGreatDoor
