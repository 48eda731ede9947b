/- markVecSS, heldVecSS: marks in what a value owns. -/
import Derived.Test.YtnndjbomfcacfaaGMk
import Derived.Deep.RegionHeld3
namespace Go.Proofs.Ytnndjbomfcacfaa
open Go.RowKit
set_option maxHeartbeats 6400000 in
theorem laws_markVecSS_ (bs : List Nat) (v : Value) (l : List (List QV)) (q : Int) (w : World) (hv : tVecSS.own bs w [v] l) (hnd : bs.Nodup) (h0 : 0 ≤ q) (h1 : q + (cVecSS l : Nat) ≤ 1000000000) (hl : wVecSS l ≤ 1048576) :
    Calls Try.prog 38 #[v, .int .i64 q] w fun e w' => e = .returned (.int .i64 (q + (cVecSS l : Nat))) ∧ Turns bs w w' ∧ tVecSS.own bs w' [v] (mkVecSS l q) := by
  obtain ⟨ao, cap, rfl⟩ := sl_len (Ty.rd_at ((tSlice _).own_rd hv))
  have HV := Lib.hid hv; have HND := Lib.hid hnd; clear hv hnd
  have HL := Lib.hid hl; clear hl
  obtain ⟨M, hM⟩ : ∃ M, M = cVecSS l := ⟨_, rfl⟩
  have HM := Lib.hid hM
  rw [← hM] at h1 ⊢
  clear hM
  obtain ⟨n, hn⟩ : ∃ n, n = l.length := ⟨_, rfl⟩
  have hn1 : n ≤ 1048576 := by have := HL.out; unfold wVecSS at this; omega
  rw [← hn] at HV ⊢
  have HN := Lib.hid hn; clear hn
  go_enter Try.func38, Try.ntmps38
  go_wp2_with fail
  go_loopw [1, 5] (fun c i wr => ∃ k s : Nat, k ≤ n ∧ i = .int .i64 k ∧ c = .int .i64 (q + s) ∧ s ≤ M ∧ Hid (s = wsum cVecS (l.take k)) ∧ Hid (Turns bs w wr) ∧ Hid (tVecSS.own bs wr [.slice ao n cap] (mix mkVecS cVecS l q k))) (fun _ i _ => n - (intOf i).toNat)
  case atStart => exact ⟨0, 0, Nat.zero_le _, rfl, by simp, Nat.zero_le _, Lib.hid rfl, Lib.hid (Turns.refl _ _), Lib.hid (by rw [mix_zero]; exact HV.out)⟩
  case round =>
    clear HV
    obtain ⟨k, s, hk, rfl, rfl, hsM, HS, HT, HO⟩ := hrel
    by_cases hlt : k < n
    · obtain ⟨x, hx⟩ : ∃ x, l[k]? = some x := ⟨_, List.getElem?_eq_getElem (by rw [← HN.out]; exact hlt)⟩
      have hx_ := hx
      have hse : s + cVecS x ≤ M := by
        have h2 := wsum_next (f := cVecS) hx
        have h3 := wsum_take cVecS l (k + 1)
        have h4 := HM.out
        have h5 := HS.out
        unfold cVecSS at h4
        omega
      have HX := Lib.hid hx; clear hx hx_
      obtain ⟨g, bi, c, cap', hv', FO, ho, hnb⟩ := Foc.start HO.out HND.out (mix_get mkVecS cVecS q HX.out)
      simp only [Value.slice.injEq] at hv'
      obtain ⟨rfl, -, rfl⟩ := hv'
      clear HO
      obtain ⟨z0, n0, y0, rfl⟩ := sh_slice (Ty.rd_at ((tSlice _).own_rd ho))
      have hnb_ : (bi).Nodup := by simpa [List.append_assoc] using hnb
      have n0_ := hnb_; clear hnb_
      have hgm := FO.mem; have hg0 := FO.hg
      have gn0 : g ∉ bi := fun h => FO.out (by simp [h])
      have O0 := Lib.hid ho; clear ho
      have W0 : Hid (wVecS x ≤ 1048576) := Lib.hid (by have := wsum_el (f := wVecS) HX.out; have := HL.out; unfold wVecSS at this; omega)
      have p0 : wr.cell? ⟨g, k, none⟩ = some (.slice z0 n0 y0) := by have h := FO.cell (j := 0) (u := .slice z0 n0 y0) rfl; rwa [show k * (tSlice _).size + 0 = k from Nat.mul_one k] at h
      have u0 : wr.frozen? ⟨g, k, none⟩ = false := FO.free _
      have FOh := Lib.hid FO; clear FO
      go_wp2_with fail
      refine (laws_markVecS_ bi _ x _ _ O0.out n0_ (by omega) (by omega) W0.out).mono ?_
      rintro e w1 ⟨rfl, T1, P0⟩
      have O0x := Lib.hid P0; clear P0 O0; have O0 := O0x; clear O0x
      have FO1 := Lib.hid (FOh.out.turn T1 (fun k hk => by simp [hk]))
      have TR1 := Lib.hid (HT.out.trans (T1.mono (fun k hk => FOh.out.sub k (by simp [hk]))))
      go_wp2_with fail
      go_roundw
      case rel => exact ⟨k + 1, s + cVecS x, by omega, by go_num, by congr 1; omega, by omega, Lib.hid (by rw [wsum_next HX.out, HS.out]), Lib.hid TR1.out, Lib.hid (by rw [← mix_set mkVecS cVecS q HX.out, ← HS.out]; exact Foc.close FO1.out O0.out)⟩
      case measure => simp [intOf]; omega
    · go_wp2_with fail
      go_ret
      obtain rfl : k = n := by omega
      have e1 : s = M := by have h2 := HS.out; rw [HN.out, List.take_length] at h2; rw [h2, HM.out]; rfl
      refine ⟨ret_int (by rw [e1]), HT.out, ?_⟩
      have h3 := HO.out
      rw [HN.out, mix_all] at h3
      rw [HN.out]
      exact h3
set_option maxHeartbeats 6400000 in
theorem laws_heldVecSS_ (v : Value) (l : List (List QV)) (q : Int) (w : World) (hv : tVecSS.at w [v] (mkVecSS l q)) (h0 : 0 ≤ q) (h1 : q + (cVecSS l : Nat) ≤ 1000000000) (hl : wVecSS l ≤ 1048576) :
    Calls Try.prog 40 #[v, .int .i64 q] w fun e w' => e = .returned (.int .i64 (q + (cVecSS l : Nat))) ∧ More w w' := by
  obtain ⟨ao, cap, rfl⟩ := sl_len hv
  have hlen : (mkVecSS l q).length = l.length := mkL_len _ _ _ _
  rw [hlen] at hv ⊢
  clear hlen
  have HV := Lib.hid hv; clear hv
  have HL := Lib.hid hl; clear hl
  obtain ⟨M, hM⟩ : ∃ M, M = cVecSS l := ⟨_, rfl⟩
  have HM := Lib.hid hM
  rw [← hM] at h1 ⊢
  clear hM
  obtain ⟨n, hn⟩ : ∃ n, n = l.length := ⟨_, rfl⟩
  have hn1 : n ≤ 1048576 := by have := HL.out; unfold wVecSS at this; omega
  rw [← hn] at HV ⊢
  have HN := Lib.hid hn; clear hn
  go_enter Try.func40, Try.ntmps40
  go_wp2_with fail
  go_loopw [1, 5] (fun c i wr => ∃ k s : Nat, k ≤ n ∧ i = .int .i64 k ∧ c = .int .i64 (q + s) ∧ s ≤ M ∧ Hid (s = wsum cVecS (l.take k)) ∧ More w wr) (fun _ i _ => n - (intOf i).toNat)
  case atStart => exact ⟨0, 0, Nat.zero_le _, rfl, by simp, Nat.zero_le _, Lib.hid rfl, More.refl _⟩
  case round =>
    obtain ⟨k, s, hk, rfl, rfl, hsM, HS, hm⟩ := hrel
    by_cases hlt : k < n
    · obtain ⟨x, hx⟩ : ∃ x, l[k]? = some x := ⟨_, List.getElem?_eq_getElem (by rw [← HN.out]; exact hlt)⟩
      have hse : s + cVecS x ≤ M := by
        have h2 := wsum_next (f := cVecS) hx
        have h3 := wsum_take cVecS l (k + 1)
        have h4 := HM.out
        have h5 := HS.out
        unfold cVecSS at h4
        omega
      have HX := Lib.hid hx; clear hx
      obtain ⟨b, off, x', a0, n0, c0, rfl, hblt, hx', hat, r0⟩ := el_VecS (Ty.at_more HV.out hm) (k := k) (by rw [show (mkVecSS l q).length = n from by rw [HN.out]; exact mkL_len _ _ _ _]; exact hlt)
      have ex : x' = mkVecS x (q + s) := by
        have h2 := mkL_get mkVecS cVecS l q k x HX.out
        rw [← HS.out] at h2
        have h3 : (mkL mkVecS cVecS l q)[k]? = some x' := hx'
        rw [h2] at h3; exact (Option.some.inj h3).symm
      clear hx'; subst ex
      have HA := Lib.hid hat; clear hat
      have F0 := HA
      have W0 : Hid (wVecS x ≤ 1048576) := Lib.hid (by have := wsum_el (f := wVecS) HX.out; have := HL.out; unfold wVecSS at this; omega)
      go_wp2_with fail
      refine (laws_heldVecS_ _ x _ _ (Ty.at_more F0.out mC) (by omega) (by omega) W0.out).mono ?_
      rintro e w1 ⟨rfl, hb1⟩; obtain ⟨hc1, hf1⟩ := bcell hb1; have hz1 := hb1.size
      have g1 : ¬ (q + ((s : Nat) : Int) + ((cVecS x : Nat) : Int) < 0) := by omega
      go_wp2_with fail
      go_roundw
      case rel => exact ⟨k + 1, s + cVecS x, by omega, by go_num, by congr 1; omega, by omega, Lib.hid (by rw [wsum_next HX.out, HS.out]), mC⟩
      case measure => simp [intOf]; omega
    · go_wp2_with fail
      go_ret
      obtain rfl : k = n := by omega
      have e1 : s = M := by have h2 := HS.out; rw [HN.out, List.take_length] at h2; rw [h2, HM.out]; rfl
      exact ⟨ret_int (by rw [e1]), hm⟩
end Go.Proofs.Ytnndjbomfcacfaa
