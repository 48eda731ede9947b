/- l17Put: a number is put into an ascending list in its place. -/
import Derived.Test.YtbbibfeblaocfaaQue
namespace Go.Proofs.Ytbbibfeblaocfaa
open Go.RowKit
theorem infoIntP : (Try.prog.info? 3).map (fun i => (i.zero, i.size, i.bytes)) = some (some (.int .i64 0), 1, 8) := by kernel_rfl
def putPos (l : List Int) (n : Int) : Nat := (l.takeWhile fun x => decide (x < n)).length
def putF (l : List Int) (n : Int) : List Int := l.take (putPos l n) ++ [n] ++ l.drop (putPos l n)
theorem putPos_cons (x : Int) (l : List Int) (n : Int) : putPos (x :: l) n = if x < n then putPos l n + 1 else 0 := by
  unfold putPos
  by_cases h : x < n
  · rw [List.takeWhile_cons_of_pos (by simpa using h), if_pos h]; rfl
  · rw [List.takeWhile_cons_of_neg (by simpa using h), if_neg h]; rfl
theorem putPos_le (l : List Int) (n : Int) : putPos l n ≤ l.length := by
  induction l with
  | nil => simp [putPos]
  | cons x l ih =>
    rw [putPos_cons]
    split
    · simp; exact ih
    · simp
theorem putPos_lt {l : List Int} {n : Int} : ∀ {k : Nat} {x : Int}, k < putPos l n → l[k]? = some x → x < n := by
  induction l with
  | nil => intro k x _ h; simp at h
  | cons y l ih =>
    intro k x hk hx
    rw [putPos_cons] at hk
    split at hk
    · cases k with
      | zero => simp at hx; subst hx; assumption
      | succ k => exact ih (k := k) (by omega) (by simpa using hx)
    · omega
theorem putPos_ge {l : List Int} {n x : Int} (h : l[putPos l n]? = some x) : ¬ x < n := by
  induction l with
  | nil => simp at h
  | cons y l ih =>
    rw [putPos_cons] at h
    split at h
    · exact ih (by simpa using h)
    · simp at h; subst h; assumption
theorem putF_perm (l : List Int) (n : Int) : (putF l n).Perm (l ++ [n]) := by
  unfold putF
  have h1 : (l.take (putPos l n) ++ [n] ++ l.drop (putPos l n)).Perm (l.take (putPos l n) ++ (l.drop (putPos l n) ++ [n])) := by
    rw [List.append_assoc]
    exact List.Perm.append_left _ List.perm_append_comm
  refine h1.trans ?_
  rw [← List.append_assoc, List.take_append_drop]
theorem putF_len (l : List Int) (n : Int) : (putF l n).length = l.length + 1 := by rw [(putF_perm l n).length_eq]; simp
theorem putF_sorted {l : List Int} {n : Int} (h : l.Pairwise (fun a b => a ≤ b)) : (putF l n).Pairwise (fun a b => a ≤ b) := by
  induction l with
  | nil => simp [putF, putPos]
  | cons x l ih =>
    have hp := List.pairwise_cons.1 h
    unfold putF
    rw [putPos_cons]
    by_cases hx : x < n
    · rw [if_pos hx]
      simp only [List.take_succ_cons, List.cons_append, List.drop_succ_cons]
      refine List.pairwise_cons.2 ⟨fun y hy => ?_, ih hp.2⟩
      have := (putF_perm l n).mem_iff.1 hy
      rcases List.mem_append.1 this with h1 | h1
      · exact hp.1 y h1
      · simp at h1; omega
    · rw [if_neg hx]
      simp only [List.take_zero, List.nil_append, List.drop_zero, List.singleton_append]
      refine List.pairwise_cons.2 ⟨fun y hy => ?_, h⟩
      rcases List.mem_cons.1 hy with h1 | h1
      · omega
      · have := hp.1 y h1; omega
theorem ints_drop {w : World} {b off n cap : Nat} {l : List Int} (h : tInts.at w [.slice (some ⟨b, off, none⟩) n cap] l) {k : Nat} (hk : k ≤ n) {off' : Nat} (ho : off' = off + k ∨ cap = k) :
    tInts.at w [.slice (some ⟨b, off', none⟩) (n - k) (cap - k)] (l.drop k) := by
  obtain ⟨ao', cap', h0, k1, k2, k3, k4⟩ := slRd_at h
  simp at h0
  obtain ⟨rfl, rfl, rfl⟩ := h0
  refine ⟨_, _, by rw [List.length_drop], by rw [List.length_drop]; omega, by omega, (fun e => by cases e), fun h0 => ?_⟩
  rw [List.length_drop] at h0
  obtain ⟨b', o', e, hp, hb, he⟩ := k4 (by omega)
  cases e
  refine ⟨b, off', rfl, hp, hb, fun j x hx => ?_⟩
  rw [List.getElem?_drop] at hx
  obtain ⟨c, hc, hv⟩ := he (k + j) x hx
  refine ⟨c, hc, fun i v hi => ?_⟩
  have := hv i v hi
  rcases ho with rfl | h9
  rotate_left
  · omega
  rw [show off + k + j * tInt.size + i = off + (k + j) * tInt.size + i by show off + k + j * 1 + i = off + (k + j) * 1 + i; omega]
  exact this
set_option maxHeartbeats 3200000 in
theorem spec_l17Put (b off cap : Nat) (l : List Int) (n : Int) (w : World) (hv : tInts.at w [.slice (some ⟨b, off, none⟩) l.length cap] l) (hl : l.length ≤ 1048576) (hn : l.contains n = false) (h64 : In64 n) :
    Calls Try.prog 118 #[.slice (some ⟨b, off, none⟩) l.length cap, .int .i64 n] w fun e w' => ∃ v', e = .returned v' ∧ More w w' ∧ FlatOwn fInt w.heap.size 3 w' v' (putF l n) := by
  obtain ⟨i0, hi, hz0, hz1, hz2⟩ := info_parts infoIntP
  have HV := Lib.hid hv; have HNo := Lib.hid hn; have H64 := Lib.hid h64; clear hn h64
  obtain ⟨m, hm⟩ : ∃ m, m = l.length := ⟨_, rfl⟩
  have hmc : m ≤ cap := by
    obtain ⟨ao', cap', h0, k1, k2, k3, k4⟩ := slRd_at hv
    simp at h0
    obtain ⟨_, rfl⟩ := h0
    omega
  clear hv
  rw [← hm] at HV hl ⊢
  have HM := Lib.hid hm; clear hm
  obtain ⟨p, ep⟩ : ∃ p, p = putPos l n := ⟨_, rfl⟩
  have hpm : p ≤ m := by rw [ep, HM.out]; exact putPos_le l n
  have EP := Lib.hid ep; clear ep
  go_enter Try.func118, Try.ntmps118
  go_wp2_with fail
  go_loopw [5] (fun i wr => ∃ k : Nat, k ≤ p ∧ i = .int .i64 k ∧ More w wr) (fun i _ => p - (intOf i).toNat)
  case atStart => exact ⟨0, Nat.zero_le _, rfl, mC⟩
  case round =>
    obtain ⟨k, hk, rfl, hmr⟩ := hrel
    have hi0 : (0 : Int) ≤ (k : Int) := by omega
    by_cases hlt : k < p
    · obtain ⟨b', off', x, e9, hblt, hx, -, c0⟩ := int_el (Ty.at_more HV.out hmr) (k := k) (by rw [← HM.out]; omega)
      cases e9
      have hi1 : (k : Int) < (m : Int) := by omega
      have hxn : x < n := putPos_lt (by rw [← EP.out]; exact hlt) hx
      clear hx
      go_wp2_with fail
      go_roundw
      case rel => exact ⟨k + 1, by omega, by go_num, mC⟩
      case measure => simp [intOf]; omega
    · obtain rfl : k = p := by omega
      have hkm : k ≤ m := hpm
      have TK : Hid (∀ w', More wr w' → tInts.at w' [.slice (some ⟨b, off, none⟩) k cap] (l.take k)) := Lib.hid (fun w' h => sl_take (Ty.at_more HV.out (More.trans hmr h)) hkm)
      have HD : Hid (∀ off', (off' = off + k ∨ cap = k) → ∀ w', More wr w' → tInts.at w' [.slice (some ⟨b, off', none⟩) (m - k) (cap - k)] (l.drop k)) := Lib.hid (fun off' h9 w' h => ints_drop (Ty.at_more HV.out (More.trans hmr h)) hkm h9)
      have LT : Hid ((l.take k).length ≤ 1048576) := Lib.hid (by rw [List.length_take]; omega)
      have LD : Hid ((l.drop k).length ≤ 1048576) := Lib.hid (by rw [List.length_drop, ← HM.out]; omega)
      have HB0 : w.heap.size ≤ wr.heap.size := hmr.size
      have hlt' : k < m ∨ k = m := by omega
      have hkc : k ≤ cap := by omega
      rcases hlt' with hlt' | hlt'
      · obtain ⟨b', off', x, e9, hblt, hx, -, c0⟩ := int_el (Ty.at_more HV.out hmr) (k := k) (by rw [← HM.out]; omega)
        cases e9
        have hi1 : (k : Int) < (m : Int) := by omega
        have hxn : ¬ x < n := putPos_ge (l := l) (by rw [← EP.out]; exact hx)
        have hxe : (x == n) = false := by
          rw [beq_eq_false_iff_ne]
          rintro rfl
          have h1 := HNo.out
          rw [has_mem.2 ⟨k, hx⟩] at h1
          cases h1
        clear hx
        have hck : ¬ cap = k := by omega
        go_wp2_with (at_builtin; refine wpList_appAll fInt _ rfl _ _ 26 rfl w.heap.size 3 i0 (.int .i64 0) 8 Try.underlying26 hi hz0 hz1 hz2 rfl (by decide) rfl (FlatOwn.lit HB0) (More.refl _) rfl (TK.out _ mC) (Lib.hid (by have := LT.out; simp only [List.length_nil]; omega)) (by decide) (Lib.hid (by simp; omega)) ?_)
        intro v1 w1 hl1 hm1
        have HL1 := Lib.hid hl1; clear hl1
        have hmw1 : More w w1 := hm1 w rfl mC
        have HB1 : Hid (w.heap.size ≤ w1.heap.size) := Lib.hid hmw1.size
        clear hm1
        go_wp2_with (at_builtin; refine wpList_pushFlat fInt w1 rfl _ _ 26 rfl w.heap.size 3 i0 (.int .i64 0) 8 Try.underlying26 hi hz0 hz1 hz2 rfl (by decide) rfl HL1.out (More.refl _) rfl (by simp) (y := n) rfl H64.out (Lib.hid (by have := LT.out; omega)) (by decide) HB1 ?_)
        intro v2 w2 hl2 hm2
        have HL2 := Lib.hid hl2; clear hl2
        have hmw2 : More w w2 := hm2 w rfl mC
        have HB2 : Hid (w.heap.size ≤ w2.heap.size) := Lib.hid hmw2.size
        clear hm2
        have HDw : Hid (∀ off', (off' = off + k ∨ cap = k) → tInts.at w2 [.slice (some ⟨b, off', none⟩) (m - k) (cap - k)] (l.drop k)) := Lib.hid (fun off' h9 => ints_drop (Ty.at_more HV.out hmw2) hkm h9)
        go_wp2_with (at_builtin; refine wpList_appAll fInt w2 rfl _ _ 26 rfl w.heap.size 3 i0 (.int .i64 0) 8 Try.underlying26 hi hz0 hz1 hz2 rfl (by decide) rfl HL2.out mC rfl (HDw.out _ (.inl (by simp))) (Lib.hid (by have := LT.out; have := LD.out; rw [List.length_append]; simp only [List.length_singleton]; omega)) (by decide) HB2 ?_)
        intro v3 w3 hl3 hm3
        have hmw3 : More w w3 := hm3 w rfl mC
        go_wp2_with fail
        go_ret
        have e3 : l.take k ++ n :: l.drop k = putF l n := by unfold putF; rw [← EP.out, List.append_assoc]; rfl
        rw [e3] at hl3
        exact ⟨_, rfl, hmw3, hl3⟩
      · subst hlt'
        have hltm : ¬ (k : Int) < (k : Int) := by omega
        have hkk : k - k = 0 := by omega
        go_wp2_with (at_builtin; refine wpList_appAll fInt _ rfl _ _ 26 rfl w.heap.size 3 i0 (.int .i64 0) 8 Try.underlying26 hi hz0 hz1 hz2 rfl (by decide) rfl (FlatOwn.lit HB0) (More.refl _) rfl (TK.out _ mC) (Lib.hid (by have := LT.out; simp only [List.length_nil]; omega)) (by decide) (Lib.hid (by simp; omega)) ?_)
        intro v1 w1 hl1 hm1
        have HL1 := Lib.hid hl1; clear hl1
        have hmw1 : More w w1 := hm1 w rfl mC
        have HB1 : Hid (w.heap.size ≤ w1.heap.size) := Lib.hid hmw1.size
        clear hm1
        go_wp2_with (at_builtin; refine wpList_pushFlat fInt w1 rfl _ _ 26 rfl w.heap.size 3 i0 (.int .i64 0) 8 Try.underlying26 hi hz0 hz1 hz2 rfl (by decide) rfl HL1.out (More.refl _) rfl (by simp) (y := n) rfl H64.out (Lib.hid (by have := LT.out; omega)) (by decide) HB1 ?_)
        intro v2 w2 hl2 hm2
        have HL2 := Lib.hid hl2; clear hl2
        have hmw2 : More w w2 := hm2 w rfl mC
        have HB2 : Hid (w.heap.size ≤ w2.heap.size) := Lib.hid hmw2.size
        clear hm2
        by_cases hck : cap = k
        · have hck0 : cap - k = 0 := by omega
          have HDw : Hid (∀ off', (off' = off + k ∨ cap = k) → tInts.at w2 [.slice (some ⟨b, off', none⟩) 0 0] (l.drop k)) := Lib.hid (fun off' h9 => by have h := ints_drop (Ty.at_more HV.out hmw2) hkm h9; rw [hkk, hck0] at h; exact h)
          go_wp2_with (at_builtin; refine wpList_appAll fInt w2 rfl _ _ 26 rfl w.heap.size 3 i0 (.int .i64 0) 8 Try.underlying26 hi hz0 hz1 hz2 rfl (by decide) rfl HL2.out mC rfl (HDw.out _ (.inr hck)) (Lib.hid (by have := LT.out; have := LD.out; rw [List.length_append]; simp only [List.length_singleton]; omega)) (by decide) HB2 ?_)
          intro v3 w3 hl3 hm3
          have hmw3 : More w w3 := hm3 w rfl mC
          go_wp2_with fail
          go_ret
          have e3 : l.take k ++ n :: l.drop k = putF l n := by unfold putF; rw [← EP.out, List.append_assoc]; rfl
          rw [e3] at hl3
          exact ⟨_, rfl, hmw3, hl3⟩
        · skip
          have HDw : Hid (∀ off', (off' = off + k ∨ cap = k) → tInts.at w2 [.slice (some ⟨b, off', none⟩) 0 (cap - k)] (l.drop k)) := Lib.hid (fun off' h9 => by have h := ints_drop (Ty.at_more HV.out hmw2) hkm h9; rw [hkk] at h; exact h)
          go_wp2_with (at_builtin; refine wpList_appAll fInt w2 rfl _ _ 26 rfl w.heap.size 3 i0 (.int .i64 0) 8 Try.underlying26 hi hz0 hz1 hz2 rfl (by decide) rfl HL2.out mC rfl (HDw.out _ (.inl (by simp))) (Lib.hid (by have := LT.out; have := LD.out; rw [List.length_append]; simp only [List.length_singleton]; omega)) (by decide) HB2 ?_)
          intro v3 w3 hl3 hm3
          have hmw3 : More w w3 := hm3 w rfl mC
          go_wp2_with fail
          go_ret
          have e3 : l.take k ++ n :: l.drop k = putF l n := by unfold putF; rw [← EP.out, List.append_assoc]; rfl
          rw [e3] at hl3
          exact ⟨_, rfl, hmw3, hl3⟩
end Go.Proofs.Ytbbibfeblaocfaa
