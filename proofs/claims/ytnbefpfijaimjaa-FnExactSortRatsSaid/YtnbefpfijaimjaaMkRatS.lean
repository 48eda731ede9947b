/- markRatS, heldRatS: marks in what a value owns. -/
import Derived.Test.YtnbefpfijaimjaaGMk
import Derived.Deep.RegionHeld3
namespace Go.Proofs.Ytnbefpfijaimjaa
open Go.RowKit
set_option maxRecDepth 16000 in
set_option maxHeartbeats 6400000 in
theorem laws_markRatS_ (bs : List Nat) (v : Value) (l : List (QR)) (q : Int) (w : World) (hv : tRatS.own bs w [v] l) (hnd : bs.Nodup) (h0 : 0 ≤ q) (h1 : q + (cRatS l : Nat) ≤ 1000000000) (hl : wRatS l ≤ 1048576) :
    Calls Try.prog 9 #[v, .int .i64 q] w fun e w' => e = .returned (.int .i64 (q + (cRatS l : Nat))) ∧ Turns bs w w' ∧ tRatS.own bs w' [v] (mkRatS l q) := by
  obtain ⟨ao, cap, rfl⟩ := sl_len (Ty.rd_at ((tSlice _).own_rd hv))
  have HV := Lib.hid hv; have HND := Lib.hid hnd; clear hv hnd
  have HL := Lib.hid hl; clear hl
  obtain ⟨M, hM⟩ : ∃ M, M = cRatS l := ⟨_, rfl⟩
  have HM := Lib.hid hM
  rw [← hM] at h1 ⊢
  clear hM
  obtain ⟨n, hn⟩ : ∃ n, n = l.length := ⟨_, rfl⟩
  have hn1 : n ≤ 1048576 := by have := HL.out; unfold wRatS at this; omega
  rw [← hn] at HV ⊢
  have HN := Lib.hid hn; clear hn
  go_enter Try.func9, Try.ntmps9
  go_wp2_with fail
  go_loopw [1, 5] (fun c i wr => ∃ k s : Nat, k ≤ n ∧ i = .int .i64 k ∧ c = .int .i64 (q + s) ∧ s ≤ M ∧ Hid (s = wsum ceRat (l.take k)) ∧ Hid (Turns bs w wr) ∧ Hid (tRatS.own bs wr [.slice ao n cap] (mix meRat ceRat l q k))) (fun _ i _ => n - (intOf i).toNat)
  case atStart => exact ⟨0, 0, Nat.zero_le _, rfl, by simp, Nat.zero_le _, Lib.hid rfl, Lib.hid (Turns.refl _ _), Lib.hid (by rw [mix_zero]; exact HV.out)⟩
  case round =>
    clear HV
    obtain ⟨k, s, hk, rfl, rfl, hsM, HS, HT, HO⟩ := hrel
    by_cases hlt : k < n
    · obtain ⟨x, hx⟩ : ∃ x, l[k]? = some x := ⟨_, List.getElem?_eq_getElem (by rw [← HN.out]; exact hlt)⟩
      have hx_ := hx
      have hse : s + ceRat x ≤ M := by
        have h2 := wsum_next (f := ceRat) hx
        have h3 := wsum_take ceRat l (k + 1)
        have h4 := HM.out
        have h5 := HS.out
        unfold cRatS at h4
        omega
      have HX := Lib.hid hx; clear hx hx_
      obtain ⟨g, bi, c, cap', hv', FO, ho, hnb⟩ := Foc.start HO.out HND.out (mix_get meRat ceRat q HX.out)
      simp only [Value.slice.injEq] at hv'
      obtain ⟨rfl, -, rfl⟩ := hv'
      clear HO
      obtain ⟨yb0, yd0, yc0, ye0, rfl, rfl, yf0, yg0⟩ := ho
      obtain ⟨y0_b0, y0_d0, y0_c0, y0_e0, rfl, rfl, y0_f0, y0_g0⟩ := yf0
      obtain ⟨rfl, rfl⟩ := y0_f0
      obtain ⟨y0_z1, y0_n1, y0_y1, rfl⟩ := sh_slice (Ty.rd_at ((tSlice _).own_rd y0_g0))
      obtain ⟨yz1, yn1, yy1, rfl⟩ := sh_slice (Ty.rd_at ((tSlice _).own_rd yg0))
      have hnb_ : (y0_d0 ++ (yd0)).Nodup := by simpa [List.append_assoc] using hnb
      simp only [List.nodup_append] at hnb_
      obtain ⟨n0_, n1_, d0_⟩ := hnb_
      have hgm := FO.mem; have hg0 := FO.hg
      have gn0 : g ∉ y0_d0 := fun h => FO.out (by simp [h])
      have gn1 : g ∉ yd0 := fun h => FO.out (by simp [h])
      have O1 := Lib.hid y0_g0; clear y0_g0
      have W1 : Hid (wIntS x.1.2 ≤ 1048576) := Lib.hid (by have := wsum_el (f := wRat) HX.out; have := HL.out; unfold wRatS at this; unfold wRat wBigInt at *; omega)
      have O2 := Lib.hid yg0; clear yg0
      have W2 : Hid (wIntS x.2 ≤ 1048576) := Lib.hid (by have := wsum_el (f := wRat) HX.out; have := HL.out; unfold wRatS at this; unfold wRat wBigInt at *; omega)
      have hce : ceRat x = 1 + cIntS x.1.2 + cIntS x.2 := rfl
      rw [hce] at hse
      have p0 : wr.cell? ⟨g, k * 3, none⟩ = some (.bool x.1.1) := FO.cell (j := 0) rfl
      have u0 : wr.frozen? ⟨g, k * 3, none⟩ = false := FO.free _
      have p1 : wr.cell? ⟨g, k * 3 + 1, none⟩ = some (.slice y0_z1 y0_n1 y0_y1) := FO.cell (j := 1) rfl
      have u1 : wr.frozen? ⟨g, k * 3 + 1, none⟩ = false := FO.free _
      have p2 : wr.cell? ⟨g, k * 3 + 2, none⟩ = some (.slice yz1 yn1 yy1) := FO.cell (j := 2) rfl
      have u2 : wr.frozen? ⟨g, k * 3 + 2, none⟩ = false := FO.free _
      have FOh := Lib.hid FO; clear FO
      go_wp2_with fail
      refine (laws_markIntS_ y0_d0 _ x.1.2 _ _ (Ty.own_turns O1.out ((Turns.refl [g] _).setCell (.inl (by simp)) _) (fun k hk hk' => by simp at hk'; subst hk'; exact gn0 hk)) n0_ (by omega) (by omega) W1.out).mono ?_
      rintro e w1 ⟨rfl, T1, P1⟩
      have O1x := Lib.hid P1; clear P1 O1; have O1 := O1x; clear O1x
      have O2x := Lib.hid (Ty.own_turns (Ty.own_turns O2.out ((Turns.refl [g] _).setCell (.inl (by simp)) _) (fun k hk hk' => by simp at hk'; subst hk'; exact gn1 hk)) T1 (fun k hk hk' => d0_ k hk' k (by simp [hk]) rfl)); clear O2; have O2 := O2x; clear O2x
      have FO1 := Lib.hid ((FOh.out.setN (j := 0) (o := k * 3) (by decide) rfl (.bool ((q + ((s : Nat) : Int)) % 3 == 0))).turn T1 (fun k hk => by simp [hk]))
      have TR1 := Lib.hid ((HT.out.setCell (.inl hgm) _).trans (T1.mono (fun k hk => FOh.out.sub k (by simp [hk]))))
      have p1_2 : w1.cell? ⟨g, k * 3 + 2, none⟩ = some (.slice yz1 yn1 yy1) := FO1.out.cell (j := 2) rfl
      have u1_2 : w1.frozen? ⟨g, k * 3 + 2, none⟩ = false := FO1.out.free _
      go_wp2_with fail
      refine (laws_markIntS_ yd0 _ x.2 _ _ O2.out n1_ (by omega) (by omega) W2.out).mono ?_
      rintro e w2 ⟨rfl, T2, P2⟩
      have O1x := Lib.hid (Ty.own_turns O1.out T2 (fun k hk hk' => d0_ k hk k (by simp [hk']) rfl)); clear O1; have O1 := O1x; clear O1x
      have O2x := Lib.hid P2; clear P2 O2; have O2 := O2x; clear O2x
      have FO2 := Lib.hid (FO1.out.turn T2 (fun k hk => by simp [hk]))
      have TR2 := Lib.hid (TR1.out.trans (T2.mono (fun k hk => FOh.out.sub k (by simp [hk]))))
      go_wp2_with fail
      go_roundw
      case rel => exact ⟨k + 1, s + ceRat x, by omega, by go_num, by congr 1; rw [hce]; omega, by omega, Lib.hid (by rw [wsum_next HX.out, HS.out]), Lib.hid TR2.out, Lib.hid (by rw [← mix_set meRat ceRat q HX.out, (show meRat x (q + ((wsum ceRat (l.take k) : Nat) : Int)) = ((((q + ((s : Nat) : Int)) % 3 == 0), mkIntS x.1.2 (q + ((s : Nat) : Int) + 1)), mkIntS x.2 (q + ((s : Nat) : Int) + 1 + ((cIntS x.1.2 : Nat) : Int))) by rw [← HS.out]; unfold meRat; simp only [Int.natCast_add, Int.add_assoc, Int.natCast_one])]; exact Foc.close FO2.out ⟨([] ++ y0_d0), yd0, [.bool ((q + ((s : Nat) : Int)) % 3 == 0), .slice y0_z1 y0_n1 y0_y1], [.slice yz1 yn1 yy1], rfl, rfl, ⟨[], y0_d0, [.bool ((q + ((s : Nat) : Int)) % 3 == 0)], [.slice y0_z1 y0_n1 y0_y1], rfl, rfl, ⟨rfl, rfl⟩, (mk_eq O1.out (by first | rfl | simp only [Int.natCast_add, Int.add_assoc]))⟩, (mk_eq O2.out (by first | rfl | simp only [Int.natCast_add, Int.add_assoc]))⟩)⟩
      case measure => simp [intOf]; omega
    · go_wp2_with fail
      go_ret
      obtain rfl : k = n := by omega
      have e1 : s = M := by have h2 := HS.out; rw [HN.out, List.take_length] at h2; rw [h2, HM.out]; rfl
      refine ⟨ret_int (by rw [e1]), HT.out, ?_⟩
      have h3 := HO.out
      rw [HN.out, mix_all] at h3
      rw [HN.out]
      exact h3
set_option maxRecDepth 16000 in
set_option maxHeartbeats 6400000 in
theorem laws_heldRatS_ (v : Value) (l : List (QR)) (q : Int) (w : World) (hv : tRatS.at w [v] (mkRatS l q)) (h0 : 0 ≤ q) (h1 : q + (cRatS l : Nat) ≤ 1000000000) (hl : wRatS l ≤ 1048576) :
    Calls Try.prog 10 #[v, .int .i64 q] w fun e w' => e = .returned (.int .i64 (q + (cRatS l : Nat))) ∧ More w w' := by
  obtain ⟨ao, cap, rfl⟩ := sl_len hv
  have hlen : (mkRatS l q).length = l.length := mkL_len _ _ _ _
  rw [hlen] at hv ⊢
  clear hlen
  have HV := Lib.hid hv; clear hv
  have HL := Lib.hid hl; clear hl
  obtain ⟨M, hM⟩ : ∃ M, M = cRatS l := ⟨_, rfl⟩
  have HM := Lib.hid hM
  rw [← hM] at h1 ⊢
  clear hM
  obtain ⟨n, hn⟩ : ∃ n, n = l.length := ⟨_, rfl⟩
  have hn1 : n ≤ 1048576 := by have := HL.out; unfold wRatS at this; omega
  rw [← hn] at HV ⊢
  have HN := Lib.hid hn; clear hn
  go_enter Try.func10, Try.ntmps10
  go_wp2_with fail
  go_loopw [1, 5] (fun c i wr => ∃ k s : Nat, k ≤ n ∧ i = .int .i64 k ∧ c = .int .i64 (q + s) ∧ s ≤ M ∧ Hid (s = wsum ceRat (l.take k)) ∧ More w wr) (fun _ i _ => n - (intOf i).toNat)
  case atStart => exact ⟨0, 0, Nat.zero_le _, rfl, by simp, Nat.zero_le _, Lib.hid rfl, More.refl _⟩
  case round =>
    obtain ⟨k, s, hk, rfl, rfl, hsM, HS, hm⟩ := hrel
    by_cases hlt : k < n
    · obtain ⟨x, hx⟩ : ∃ x, l[k]? = some x := ⟨_, List.getElem?_eq_getElem (by rw [← HN.out]; exact hlt)⟩
      have hse : s + ceRat x ≤ M := by
        have h2 := wsum_next (f := ceRat) hx
        have h3 := wsum_take ceRat l (k + 1)
        have h4 := HM.out
        have h5 := HS.out
        unfold cRatS at h4
        omega
      have HX := Lib.hid hx; clear hx
      obtain ⟨b, off, x', a1, n1, c1, a2, n2, c2, rfl, hblt, hx', hat, r0, r1, r2⟩ := el_Rat (Ty.at_more HV.out hm) (k := k) (by rw [show (mkRatS l q).length = n from by rw [HN.out]; exact mkL_len _ _ _ _]; exact hlt)
      have ex : x' = meRat x (q + s) := by
        have h2 := mkL_get meRat ceRat l q k x HX.out
        rw [← HS.out] at h2
        have h3 : (mkL meRat ceRat l q)[k]? = some x' := hx'
        rw [h2] at h3; exact (Option.some.inj h3).symm
      clear hx'; subst ex
      have HA := Lib.hid hat; clear hat
      have hce : ceRat x = 1 + cIntS x.1.2 + cIntS x.2 := rfl
      rw [hce] at hse
      have t0 : wr.cell? ⟨b, off + k * 3, none⟩ = some (.bool ((q + ((s : Nat) : Int)) % 3 == 0)) := by rw [r0]; simp only [meRat, Int.natCast_add, Int.add_assoc, Int.natCast_one]
      clear r0
      have hat := HA.out
      obtain ⟨m_f0, m_e0⟩ := at_split (c1 := [.bool (meRat x (q + s)).1.1, .slice a1 n1 c1]) (c2 := [.slice a2 n2 c2]) hat rfl
      obtain ⟨m_0_f0, m_0_e0⟩ := at_split (c1 := [.bool (meRat x (q + s)).1.1]) (c2 := [.slice a1 n1 c1]) m_f0 rfl
      have S_0 := m_0_e0
      have S_1 := m_e0
      have F1 := Lib.hid (mk_at (y := mkIntS x.1.2 (q + ((s : Nat) : Int) + 1)) S_0 (by simp only [meRat, Int.natCast_add, Int.add_assoc, Int.natCast_one])); clear S_0
      have F2 := Lib.hid (mk_at (y := mkIntS x.2 (q + ((s : Nat) : Int) + 1 + ((cIntS x.1.2 : Nat) : Int))) S_1 (by simp only [meRat, Int.natCast_add, Int.add_assoc, Int.natCast_one])); clear S_1
      clear hat 
      try clear m_0_e0
      try clear m_0_f0
      try clear m_e0
      try clear m_f0
      have W1 : Hid (wIntS x.1.2 ≤ 1048576) := Lib.hid (by have := wsum_el (f := wRat) HX.out; have := HL.out; unfold wRatS at this; unfold wRat wBigInt at *; omega)
      have W2 : Hid (wIntS x.2 ≤ 1048576) := Lib.hid (by have := wsum_el (f := wRat) HX.out; have := HL.out; unfold wRatS at this; unfold wRat wBigInt at *; omega)
      go_wp2_with fail
      refine (laws_heldIntS_ _ x.1.2 _ _ (Ty.at_more F1.out mC) (by omega) (by omega) W1.out).mono ?_
      rintro e w1 ⟨rfl, hb1⟩; obtain ⟨hc1, hf1⟩ := bcell hb1; have hz1 := hb1.size; have hl1 : b < w1.heap.size := by omega
      have g1 : ¬ (q + ((s : Nat) : Int) + 1 + ((cIntS x.1.2 : Nat) : Int) < 0) := by omega
      go_wp2_with fail
      refine (laws_heldIntS_ _ x.2 _ _ (Ty.at_more F2.out mC) (by omega) (by omega) W2.out).mono ?_
      rintro e w2 ⟨rfl, hb2⟩; obtain ⟨hc2, hf2⟩ := bcell hb2; have hz2 := hb2.size; have hl2 : b < w2.heap.size := by omega
      have g2 : ¬ (q + ((s : Nat) : Int) + 1 + ((cIntS x.1.2 : Nat) : Int) + ((cIntS x.2 : Nat) : Int) < 0) := by omega
      go_wp2_with fail
      go_roundw
      case rel => exact ⟨k + 1, s + ceRat x, by omega, by go_num, by congr 1; rw [hce]; omega, by omega, Lib.hid (by rw [wsum_next HX.out, HS.out]), mC⟩
      case measure => simp [intOf]; omega
    · go_wp2_with fail
      go_ret
      obtain rfl : k = n := by omega
      have e1 : s = M := by have h2 := HS.out; rw [HN.out, List.take_length] at h2; rw [h2, HM.out]; rfl
      exact ⟨ret_int (by rw [e1]), hm⟩
end Go.Proofs.Ytnbefpfijaimjaa
