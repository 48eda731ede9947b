/- Zeros in front; a number's digits by the reference. -/
import Derived.Test.YtnbefpfijaimjaaGreatDoorStc
import Derived.Laws.IdiomStrings
namespace Go.Proofs.YtnbefpfijaimjaaGreatDoor
open Go.RowKit
def padZ (l : List UInt8) : List UInt8 := List.replicate (9 - l.length) 48 ++ l
theorem repeat_one (c : Nat) : Lib.repeatL [48] c = List.replicate c 48 := by
  induction c with
  | zero => rfl
  | succ c ih => rw [List.replicate_succ, ← ih]; rfl
theorem str_Repeat (c : Nat) (w : World) (hc : c ≤ 9) : Calls Tryz.prog 132 #[.string ⟨#[48]⟩, .int .i64 (c : Int)] w fun e w' => e = .returned (.string (sB (List.replicate c 48))) ∧ More w w' := by
  have h := Any.strings_Repeat laysRepeat laysX (sB [48]) c w (by omega) (by rw [sB_size]; simp; omega)
  rw [sB_data, repeat_one] at h
  exact h.mono fun e w' ⟨h1, h2⟩ => ⟨h1, More.of_below h2⟩
set_option maxHeartbeats 800000 in
theorem impl_PadZeros (l : List UInt8) (w : World) (hl : l.length ≤ 1000) :
    Calls Tryz.prog 97 #[.string (sB l), .int .i64 9] w fun e w' => e = .returned (.string (sB (padZ l))) ∧ More w w' := by
  obtain ⟨n, hn⟩ : ∃ n, n = l.length := ⟨_, rfl⟩
  have hs : (sB l).size = n := by rw [sB_size, hn]
  have HN := Lib.hid hn; clear hn
  rw [← HN.out] at hl
  by_cases h9 : 9 ≤ n
  · have h9' : (9 : Int) ≤ (n : Int) := by omega
    go_enter Tryz.func97, Tryz.ntmps97
    go_wp2_with fail
    go_ret
    refine ⟨?_, mC⟩
    unfold padZ
    rw [← HN.out, show 9 - n = 0 by omega]
    rfl
  · obtain ⟨c, hc⟩ : ∃ c, c = 9 - n := ⟨_, rfl⟩
    have h9' : ¬ (9 : Int) ≤ (n : Int) := by omega
    have hwk : IntKind.i64.wrap (9 - (n : Int)) = (c : Int) := by rw [IntWalk.i64_in _ (by omega)]; omega
    have HC := Lib.hid hc
    have hc9 : c ≤ 9 := by omega
    have hadd : ∀ w, (Op.stringOp .add (sB (List.replicate c 48)) (sB l)).run Tryz.prog w = .ok (.string (sB (List.replicate c 48 ++ l))) w := fun w => add_run _ _ _ w (by rw [List.length_replicate, ← HN.out]; omega)
    clear hc
    go_enter Tryz.func97, Tryz.ntmps97
    go_wp2_with (go_at_call 132; refine (str_Repeat c _ hc9).mono ?_; rintro e w1 ⟨rfl, hb1⟩)
    go_ret
    refine ⟨?_, mC⟩
    unfold padZ
    rw [← HN.out, ← HC.out]
    rfl
set_option maxHeartbeats 800000 in
theorem spec_PadZeros (l : List UInt8) (w : World) (hl : l.length ≤ 1000) :
    Calls Tryz.prog 115 #[.string (sB l), .int .i64 9] w fun e w' => e = .returned (.string (sB (padZ l))) ∧ More w w' := by
  obtain ⟨n, hn⟩ : ∃ n, n = l.length := ⟨_, rfl⟩
  have HN := Lib.hid hn; clear hn
  rw [← HN.out] at hl
  go_enter Tryz.func115, Tryz.ntmps115
  go_wp2_with fail
  go_loopw [0] (fun v wr => ∃ j : Nat, v = .string (sB (List.replicate j 48 ++ l)) ∧ j ≤ 9 - n ∧ More w wr) (fun v _ => match v with | .string s => 2000 - s.size | _ => 0)
  case atStart => exact ⟨0, rfl, Nat.zero_le _, mC⟩
  case round =>
    obtain ⟨j, rfl, hj, hm⟩ := hrel
    have hs : (sB (List.replicate j 48 ++ l)).size = j + n := by rw [sB_size, List.length_append, List.length_replicate, HN.out]
    by_cases hlt : j + n < 9
    · have hlt' : (j : Int) + (n : Int) < 9 := by omega
      have hadd : ∀ w, (Op.stringOp .add ⟨#[48]⟩ (sB (List.replicate j 48 ++ l))).run Tryz.prog w = .ok (.string (sB (List.replicate (j + 1) 48 ++ l))) w := fun w => add_run _ [48] (List.replicate j 48 ++ l) w (by rw [List.length_append, List.length_replicate, ← HN.out]; simp; omega)
      go_wp2_with fail
      go_roundw
      case rel => exact ⟨j + 1, rfl, by omega, mC⟩
      case measure =>
        have hs2 : (sB (List.replicate (j + 1) 48 ++ l)).size = j + 1 + n := by rw [sB_size, List.length_append, List.length_replicate, HN.out]
        simp [hs, hs2]; omega
    · have hlt' : ¬ (j : Int) + (n : Int) < 9 := by omega
      go_wp2_with fail
      go_ret
      refine ⟨?_, hm⟩
      unfold padZ
      rw [← HN.out, show 9 - n = j by omega]
      rfl
theorem dec_small {u : Nat} (h : u < 10) : Lib.decDigits u = [UInt8.ofNat (48 + u)] := by rw [Lib.decDigits, dif_pos h]
theorem dec_big {u : Nat} (h : ¬ u < 10) : Lib.decDigits u = Lib.decDigits (u / 10) ++ [UInt8.ofNat (48 + u % 10)] := by rw [Lib.decDigits, dif_neg h]
theorem dec_len : ∀ {k n : Nat}, n < 10 ^ (k + 1) → (Lib.decDigits n).length ≤ k + 1
  | 0, n, h => by rw [dec_small (by simpa using h)]; simp
  | k + 1, n, h => by
    by_cases h1 : n < 10
    · rw [dec_small h1]; simp
    · have h2 : n / 10 < 10 ^ (k + 1) := by rw [Nat.div_lt_iff_lt_mul (by decide)]; rw [Nat.pow_succ] at h; exact h
      have := dec_len h2
      rw [dec_big h1, List.length_append, List.length_singleton]
      omega
theorem one_string (w : World) (b : UInt8) : (convert 34 9 (.slice (some ⟨w.heap.size, 0, none⟩) 1 1)).run Tryz.prog (w.alloc (.cells #[.int .u8 (b.toNat : Int)] 5)) = .ok (.string (sB [b])) (w.alloc (.cells #[.int .u8 (b.toNat : Int)] 5)) := by
  have h := run_convert_bytes_back (P := Tryz.prog) (w.alloc (.cells #[.int .u8 (b.toNat : Int)] 5)) 34 9 5 ⟨w.heap.size, 0, none⟩ 1 [b] Tryz.underlying34 Tryz.underlying5 Tryz.underlying9 (fun j hj => by
    obtain rfl : j = 0 := by simpa using hj
    rw [Addr.add_lit, Nat.zero_add, cell_of_row _ w.heap.size _ _ _ _ (heap_alloc_new w _)]
    rfl)
  exact h
set_option maxRecDepth 8000 in
set_option maxHeartbeats 1600000 in
theorem spec_FormatInt (n : Nat) (w : World) (hn : n ≤ 1000000000) :
    Calls Tryz.prog 114 #[.int .i64 (n : Int)] w fun e w' => e = .returned (.string (sB (Lib.decDigits n))) ∧ More w w' := by
  have h0 : ¬ (n : Int) < 0 := by omega
  go_enter Tryz.func114, Tryz.ntmps114
  go_wp2_with fail
  go_loopw [0, 3] (fun vn vs wr => ∃ (m : Nat) (t : List UInt8), vn = .int .i64 (m : Int) ∧ vs = .string (sB t) ∧ m ≤ 1000000000 ∧ t.length + (Lib.decDigits m).length = (Lib.decDigits n).length ∧ Hid (Lib.decDigits m ++ t = Lib.decDigits n) ∧ More w wr) (fun vn _ _ => (intOf vn).toNat)
  case atStart => exact ⟨n, [], rfl, rfl, hn, by simp, Lib.hid (by simp), mC⟩
  case round =>
    obtain ⟨m, t, rfl, rfl, hm9, hlen, HE, hm⟩ := hrel
    by_cases hb : 9 < m
    · have hb' : (9 : Int) < (m : Int) := by omega
      obtain ⟨b, hbv⟩ : ∃ b, b = UInt8.ofNat (48 + m % 10) := ⟨_, rfl⟩
      obtain ⟨d, hd⟩ : ∃ d, d = m % 10 := ⟨_, rfl⟩
      have hd9 : d ≤ 9 := by omega
      have e1 : (m : Int).tmod 10 = (d : Int) := by rw [hd]; rfl
      have e2 : (m : Int) % 10 = (d : Int) := by omega
      have e3 : IntKind.i64.wrap (48 + (d : Int)) = 48 + (d : Int) := IntWalk.i64_in _ (by omega)
      have e4 : IntKind.u8.wrap (48 + (d : Int)) = (b.toNat : Int) := by rw [hbv, ← hd, UInt8.toNat_ofNat']; simp [IntKind.wrap, IntKind.bits, IntKind.signed]
      have e5 : IntKind.i64.wrap (d : Int) = (d : Int) := IntWalk.i64_in _ (by omega)
      have HB := Lib.hid hbv; have HDD := Lib.hid hd
      clear hbv hd
      obtain ⟨q, hq⟩ : ∃ q, q = m / 10 := ⟨_, rfl⟩
      have e6 : (m : Int).tdiv 10 = (q : Int) := by rw [hq]; rfl
      have e7 : IntKind.i64.wrap (q : Int) = (q : Int) := IntWalk.i64_in _ (by omega)
      have HT : Hid (t.length ≤ 10) := Lib.hid (by have := dec_len (k := 9) (n := n) (by omega); omega)
      have HQ : Hid (Lib.decDigits m = Lib.decDigits q ++ [b]) := Lib.hid (by rw [dec_big (by omega), hq, HB.out])
      have hq9 : q ≤ m := by omega
      have hq0 : q < m := by omega
      clear hq
      have hone := one_string wr b
      have hadd : ∀ w, (Op.stringOp .add (sB [b]) (sB t)).run Tryz.prog w = .ok (.string (sB ([b] ++ t))) w := fun w => add_run _ _ _ w (by have := HT.out; simp; omega)
      go_wp2_with fail
      go_roundw
      case rel => exact ⟨q, [b] ++ t, by first | rfl | simp, by first | rfl | simp, by omega, by have h := congrArg List.length HQ.out; rw [List.length_append, List.length_singleton] at h; rw [List.length_append, List.length_singleton]; omega, Lib.hid (by rw [← HE.out, HQ.out, List.append_assoc]), mC⟩
      case measure => simp [intOf]; omega
    · have hb' : ¬ (9 : Int) < (m : Int) := by omega
      obtain ⟨b, hbv⟩ : ∃ b, b = UInt8.ofNat (48 + m) := ⟨_, rfl⟩
      have e3 : IntKind.i64.wrap (48 + (m : Int)) = 48 + (m : Int) := IntWalk.i64_in _ (by omega)
      have e4 : IntKind.u8.wrap (48 + (m : Int)) = (b.toNat : Int) := by rw [hbv, UInt8.toNat_ofNat']; simp [IntKind.wrap, IntKind.bits, IntKind.signed]
      have HB : Hid (Lib.decDigits m = [b]) := Lib.hid (by rw [dec_small (by omega), hbv])
      have HT : Hid (t.length ≤ 10) := Lib.hid (by have := dec_len (k := 9) (n := n) (by omega); omega)
      clear hbv
      have hone := one_string wr b
      have hadd : ∀ w, (Op.stringOp .add (sB [b]) (sB t)).run Tryz.prog w = .ok (.string (sB ([b] ++ t))) w := fun w => add_run _ _ _ w (by have := HT.out; simp; omega)
      go_wp2_with fail
      go_ret
      refine ⟨?_, mC⟩
      have h := HE.out
      rw [HB.out] at h
      rw [← h]
      rfl
end Go.Proofs.YtnbefpfijaimjaaGreatDoor
