/- markIntSS, heldIntSS: marks in what a value owns. -/
import Derived.Test.YtbbibfeblaocfaaGMk
import Derived.Deep.RegionHeld3
namespace Go.Proofs.Ytbbibfeblaocfaa
open Go.RowKit
set_option maxHeartbeats 6400000 in
theorem laws_markIntSS_ (bs : List Nat) (v : Value) (l : List (List Int)) (q : Int) (w : World) (hv : tIntSS.own bs w [v] l) (hnd : bs.Nodup) (h0 : 0 ≤ q) (h1 : q + (cIntSS l : Nat) ≤ 1000000000) (hl : wIntSS l ≤ 1048576) :
    Calls Try.prog 122 #[v, .int .i64 q] w fun e w' => e = .returned (.int .i64 (q + (cIntSS l : Nat))) ∧ Turns bs w w' ∧ tIntSS.own bs w' [v] (mkIntSS l q) := by
  obtain ⟨ao, cap, rfl⟩ := sl_len (Ty.rd_at ((tSlice _).own_rd hv))
  have HV := Lib.hid hv; have HND := Lib.hid hnd; clear hv hnd
  have HL := Lib.hid hl; clear hl
  obtain ⟨M, hM⟩ : ∃ M, M = cIntSS l := ⟨_, rfl⟩
  have HM := Lib.hid hM
  rw [← hM] at h1 ⊢
  clear hM
  obtain ⟨n, hn⟩ : ∃ n, n = l.length := ⟨_, rfl⟩
  have hn1 : n ≤ 1048576 := by have := HL.out; unfold wIntSS at this; omega
  rw [← hn] at HV ⊢
  have HN := Lib.hid hn; clear hn
  go_enter Try.func122, Try.ntmps122
  go_wp2_with fail
  go_loopw [1, 5] (fun c i wr => ∃ k s : Nat, k ≤ n ∧ i = .int .i64 k ∧ c = .int .i64 (q + s) ∧ s ≤ M ∧ Hid (s = wsum cIntS (l.take k)) ∧ Hid (Turns bs w wr) ∧ Hid (tIntSS.own bs wr [.slice ao n cap] (mix mkIntS cIntS l q k))) (fun _ i _ => n - (intOf i).toNat)
  case atStart => exact ⟨0, 0, Nat.zero_le _, rfl, by simp, Nat.zero_le _, Lib.hid rfl, Lib.hid (Turns.refl _ _), Lib.hid (by rw [mix_zero]; exact HV.out)⟩
  case round =>
    clear HV
    obtain ⟨k, s, hk, rfl, rfl, hsM, HS, HT, HO⟩ := hrel
    by_cases hlt : k < n
    · obtain ⟨x, hx⟩ : ∃ x, l[k]? = some x := ⟨_, List.getElem?_eq_getElem (by rw [← HN.out]; exact hlt)⟩
      have hx_ := hx
      have hse : s + cIntS x ≤ M := by
        have h2 := wsum_next (f := cIntS) hx
        have h3 := wsum_take cIntS l (k + 1)
        have h4 := HM.out
        have h5 := HS.out
        unfold cIntSS at h4
        omega
      have HX := Lib.hid hx; clear hx hx_
      obtain ⟨g, bi, c, cap', hv', FO, ho, hnb⟩ := Foc.start HO.out HND.out (mix_get mkIntS cIntS q HX.out)
      simp only [Value.slice.injEq] at hv'
      obtain ⟨rfl, -, rfl⟩ := hv'
      clear HO
      obtain ⟨z0, n0, y0, rfl⟩ := sh_slice (Ty.rd_at ((tSlice _).own_rd ho))
      have hnb_ : (bi).Nodup := by simpa [List.append_assoc] using hnb
      have n0_ := hnb_; clear hnb_
      have hgm := FO.mem; have hg0 := FO.hg
      have gn0 : g ∉ bi := fun h => FO.out (by simp [h])
      have O0 := Lib.hid ho; clear ho
      have W0 : Hid (wIntS x ≤ 1048576) := Lib.hid (by have := wsum_el (f := wIntS) HX.out; have := HL.out; unfold wIntSS at this; omega)
      have p0 : wr.cell? ⟨g, k, none⟩ = some (.slice z0 n0 y0) := by have h := FO.cell (j := 0) (u := .slice z0 n0 y0) rfl; rwa [show k * (tSlice _).size + 0 = k from Nat.mul_one k] at h
      have u0 : wr.frozen? ⟨g, k, none⟩ = false := FO.free _
      have FOh := Lib.hid FO; clear FO
      go_wp2_with fail
      refine (laws_markIntS_ bi _ x _ _ O0.out n0_ (by omega) (by omega) W0.out).mono ?_
      rintro e w1 ⟨rfl, T1, P0⟩
      have O0x := Lib.hid P0; clear P0 O0; have O0 := O0x; clear O0x
      have FO1 := Lib.hid (FOh.out.turn T1 (fun k hk => by simp [hk]))
      have TR1 := Lib.hid (HT.out.trans (T1.mono (fun k hk => FOh.out.sub k (by simp [hk]))))
      go_wp2_with fail
      go_roundw
      case rel => exact ⟨k + 1, s + cIntS x, by omega, by go_num, by congr 1; omega, by omega, Lib.hid (by rw [wsum_next HX.out, HS.out]), Lib.hid TR1.out, Lib.hid (by rw [← mix_set mkIntS cIntS q HX.out, ← HS.out]; exact Foc.close FO1.out O0.out)⟩
      case measure => simp [intOf]; omega
    · go_wp2_with fail
      go_ret
      obtain rfl : k = n := by omega
      have e1 : s = M := by have h2 := HS.out; rw [HN.out, List.take_length] at h2; rw [h2, HM.out]; rfl
      refine ⟨ret_int (by rw [e1]), HT.out, ?_⟩
      have h3 := HO.out
      rw [HN.out, mix_all] at h3
      rw [HN.out]
      exact h3
end Go.Proofs.Ytbbibfeblaocfaa
