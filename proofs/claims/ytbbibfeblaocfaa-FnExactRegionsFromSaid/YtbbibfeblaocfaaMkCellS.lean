/- markCellS, heldCellS: marks in what a value owns. -/
import Derived.Test.YtbbibfeblaocfaaGMk
import Derived.Deep.RegionHeld3
namespace Go.Proofs.Ytbbibfeblaocfaa
open Go.RowKit
set_option maxRecDepth 16000 in
set_option maxHeartbeats 6400000 in
theorem laws_markCellS_ (bs : List Nat) (v : Value) (l : List (QCell)) (q : Int) (w : World) (hv : tCellS.own bs w [v] l) (hnd : bs.Nodup) (h0 : 0 ≤ q) (h1 : q + (cCellS l : Nat) ≤ 1000000000) (hl : wCellS l ≤ 1048576) :
    Calls Try.prog 158 #[v, .int .i64 q] w fun e w' => e = .returned (.int .i64 (q + (cCellS l : Nat))) ∧ Turns bs w w' ∧ tCellS.own bs w' [v] (mkCellS l q) := by
  obtain ⟨ao, cap, rfl⟩ := sl_len (Ty.rd_at ((tSlice _).own_rd hv))
  have HV := Lib.hid hv; have HND := Lib.hid hnd; clear hv hnd
  have HL := Lib.hid hl; clear hl
  obtain ⟨M, hM⟩ : ∃ M, M = cCellS l := ⟨_, rfl⟩
  have HM := Lib.hid hM
  rw [← hM] at h1 ⊢
  clear hM
  obtain ⟨n, hn⟩ : ∃ n, n = l.length := ⟨_, rfl⟩
  have hn1 : n ≤ 1048576 := by have := HL.out; unfold wCellS at this; omega
  rw [← hn] at HV ⊢
  have HN := Lib.hid hn; clear hn
  go_enter Try.func158, Try.ntmps158
  go_wp2_with fail
  go_loopw [1, 5] (fun c i wr => ∃ k s : Nat, k ≤ n ∧ i = .int .i64 k ∧ c = .int .i64 (q + s) ∧ s ≤ M ∧ Hid (s = wsum ceCell (l.take k)) ∧ Hid (Turns bs w wr) ∧ Hid (tCellS.own bs wr [.slice ao n cap] (mix meCell ceCell l q k))) (fun _ i _ => n - (intOf i).toNat)
  case atStart => exact ⟨0, 0, Nat.zero_le _, rfl, by simp, Nat.zero_le _, Lib.hid rfl, Lib.hid (Turns.refl _ _), Lib.hid (by rw [mix_zero]; exact HV.out)⟩
  case round =>
    clear HV
    obtain ⟨k, s, hk, rfl, rfl, hsM, HS, HT, HO⟩ := hrel
    by_cases hlt : k < n
    · obtain ⟨x, hx⟩ : ∃ x, l[k]? = some x := ⟨_, List.getElem?_eq_getElem (by rw [← HN.out]; exact hlt)⟩
      have hx_ := hx
      have hse : s + ceCell x ≤ M := by
        have h2 := wsum_next (f := ceCell) hx
        have h3 := wsum_take ceCell l (k + 1)
        have h4 := HM.out
        have h5 := HS.out
        unfold cCellS at h4
        omega
      have HX := Lib.hid hx; clear hx hx_
      obtain ⟨g, bi, c, cap', hv', FO, ho, hnb⟩ := Foc.start HO.out HND.out (mix_get meCell ceCell q HX.out)
      simp only [Value.slice.injEq] at hv'
      obtain ⟨rfl, -, rfl⟩ := hv'
      clear HO
      obtain ⟨yb0, yd0, yc0, ye0, rfl, rfl, yf0, yg0⟩ := ho
      obtain ⟨yb1, yd1, yc1, ye1, rfl, rfl, yf1, yg1⟩ := yg0
      obtain ⟨yb2, yd2, yc2, ye2, rfl, rfl, yf2, yg2⟩ := yg1
      obtain ⟨yb3, yd3, yc3, ye3, rfl, rfl, yf3, yg3⟩ := yg2
      obtain ⟨yb4, yd4, yc4, ye4, rfl, rfl, yf4, yg4⟩ := yg3
      obtain ⟨y0_b0, y0_d0, y0_c0, y0_e0, rfl, rfl, y0_f0, y0_g0⟩ := yf0
      obtain ⟨y0_0_b0, y0_0_d0, y0_0_c0, y0_0_e0, rfl, rfl, y0_0_f0, y0_0_g0⟩ := y0_f0
      obtain ⟨rfl, rfl⟩ := y0_0_f0
      obtain ⟨y0_0_z1, y0_0_n1, y0_0_y1, rfl⟩ := sh_slice (Ty.rd_at ((tSlice _).own_rd y0_0_g0))
      obtain ⟨y0_z1, y0_n1, y0_y1, rfl⟩ := sh_slice (Ty.rd_at ((tSlice _).own_rd y0_g0))
      obtain ⟨y1_b0, y1_d0, y1_c0, y1_e0, rfl, rfl, y1_f0, y1_g0⟩ := yf1
      obtain ⟨y1_0_b0, y1_0_d0, y1_0_c0, y1_0_e0, rfl, rfl, y1_0_f0, y1_0_g0⟩ := y1_f0
      obtain ⟨rfl, rfl⟩ := y1_0_f0
      obtain ⟨y1_0_z1, y1_0_n1, y1_0_y1, rfl⟩ := sh_slice (Ty.rd_at ((tSlice _).own_rd y1_0_g0))
      obtain ⟨y1_z1, y1_n1, y1_y1, rfl⟩ := sh_slice (Ty.rd_at ((tSlice _).own_rd y1_g0))
      obtain ⟨y2_b0, y2_d0, y2_c0, y2_e0, rfl, rfl, y2_f0, y2_g0⟩ := yf2
      obtain ⟨y2_0_b0, y2_0_d0, y2_0_c0, y2_0_e0, rfl, rfl, y2_0_f0, y2_0_g0⟩ := y2_f0
      obtain ⟨rfl, rfl⟩ := y2_0_f0
      obtain ⟨y2_0_z1, y2_0_n1, y2_0_y1, rfl⟩ := sh_slice (Ty.rd_at ((tSlice _).own_rd y2_0_g0))
      obtain ⟨y2_z1, y2_n1, y2_y1, rfl⟩ := sh_slice (Ty.rd_at ((tSlice _).own_rd y2_g0))
      obtain ⟨y3_b0, y3_d0, y3_c0, y3_e0, rfl, rfl, y3_f0, y3_g0⟩ := yf3
      obtain ⟨y3_0_b0, y3_0_d0, y3_0_c0, y3_0_e0, rfl, rfl, y3_0_f0, y3_0_g0⟩ := y3_f0
      obtain ⟨rfl, rfl⟩ := y3_0_f0
      obtain ⟨y3_0_z1, y3_0_n1, y3_0_y1, rfl⟩ := sh_slice (Ty.rd_at ((tSlice _).own_rd y3_0_g0))
      obtain ⟨y3_z1, y3_n1, y3_y1, rfl⟩ := sh_slice (Ty.rd_at ((tSlice _).own_rd y3_g0))
      obtain ⟨y4_b0, y4_d0, y4_c0, y4_e0, rfl, rfl, y4_f0, y4_g0⟩ := yf4
      obtain ⟨y4_0_b0, y4_0_d0, y4_0_c0, y4_0_e0, rfl, rfl, y4_0_f0, y4_0_g0⟩ := y4_f0
      obtain ⟨rfl, rfl⟩ := y4_0_f0
      obtain ⟨y4_0_z1, y4_0_n1, y4_0_y1, rfl⟩ := sh_slice (Ty.rd_at ((tSlice _).own_rd y4_0_g0))
      obtain ⟨y4_z1, y4_n1, y4_y1, rfl⟩ := sh_slice (Ty.rd_at ((tSlice _).own_rd y4_g0))
      obtain ⟨y5_b0, y5_d0, y5_c0, y5_e0, rfl, rfl, y5_f0, y5_g0⟩ := yg4
      obtain ⟨y5_0_b0, y5_0_d0, y5_0_c0, y5_0_e0, rfl, rfl, y5_0_f0, y5_0_g0⟩ := y5_f0
      obtain ⟨rfl, rfl⟩ := y5_0_f0
      obtain ⟨y5_0_z1, y5_0_n1, y5_0_y1, rfl⟩ := sh_slice (Ty.rd_at ((tSlice _).own_rd y5_0_g0))
      obtain ⟨y5_z1, y5_n1, y5_y1, rfl⟩ := sh_slice (Ty.rd_at ((tSlice _).own_rd y5_g0))
      have hnb_ : (y0_0_d0 ++ (y0_d0 ++ (y1_0_d0 ++ (y1_d0 ++ (y2_0_d0 ++ (y2_d0 ++ (y3_0_d0 ++ (y3_d0 ++ (y4_0_d0 ++ (y4_d0 ++ (y5_0_d0 ++ (y5_d0)))))))))))).Nodup := by simpa [List.append_assoc] using hnb
      simp only [List.nodup_append] at hnb_
      obtain ⟨n0_, ⟨n1_, ⟨n2_, ⟨n3_, ⟨n4_, ⟨n5_, ⟨n6_, ⟨n7_, ⟨n8_, ⟨n9_, ⟨n10_, n11_, d10_⟩, d9_⟩, d8_⟩, d7_⟩, d6_⟩, d5_⟩, d4_⟩, d3_⟩, d2_⟩, d1_⟩, d0_⟩ := hnb_
      have hgm := FO.mem; have hg0 := FO.hg
      have gn0 : g ∉ y0_0_d0 := fun h => FO.out (by simp [h])
      have gn1 : g ∉ y0_d0 := fun h => FO.out (by simp [h])
      have gn2 : g ∉ y1_0_d0 := fun h => FO.out (by simp [h])
      have gn3 : g ∉ y1_d0 := fun h => FO.out (by simp [h])
      have gn4 : g ∉ y2_0_d0 := fun h => FO.out (by simp [h])
      have gn5 : g ∉ y2_d0 := fun h => FO.out (by simp [h])
      have gn6 : g ∉ y3_0_d0 := fun h => FO.out (by simp [h])
      have gn7 : g ∉ y3_d0 := fun h => FO.out (by simp [h])
      have gn8 : g ∉ y4_0_d0 := fun h => FO.out (by simp [h])
      have gn9 : g ∉ y4_d0 := fun h => FO.out (by simp [h])
      have gn10 : g ∉ y5_0_d0 := fun h => FO.out (by simp [h])
      have gn11 : g ∉ y5_d0 := fun h => FO.out (by simp [h])
      have O1 := Lib.hid y0_0_g0; clear y0_0_g0
      have W1 : Hid (wIntS x.1.1.2 ≤ 1048576) := Lib.hid (by have := wsum_el (f := wCell) HX.out; have := HL.out; unfold wCellS at this; unfold wCell wRat wBigInt at *; omega)
      have O2 := Lib.hid y0_g0; clear y0_g0
      have W2 : Hid (wIntS x.1.2 ≤ 1048576) := Lib.hid (by have := wsum_el (f := wCell) HX.out; have := HL.out; unfold wCellS at this; unfold wCell wRat wBigInt at *; omega)
      have O4 := Lib.hid y1_0_g0; clear y1_0_g0
      have W4 : Hid (wIntS x.2.1.1.2 ≤ 1048576) := Lib.hid (by have := wsum_el (f := wCell) HX.out; have := HL.out; unfold wCellS at this; unfold wCell wRat wBigInt at *; omega)
      have O5 := Lib.hid y1_g0; clear y1_g0
      have W5 : Hid (wIntS x.2.1.2 ≤ 1048576) := Lib.hid (by have := wsum_el (f := wCell) HX.out; have := HL.out; unfold wCellS at this; unfold wCell wRat wBigInt at *; omega)
      have O7 := Lib.hid y2_0_g0; clear y2_0_g0
      have W7 : Hid (wIntS x.2.2.1.1.2 ≤ 1048576) := Lib.hid (by have := wsum_el (f := wCell) HX.out; have := HL.out; unfold wCellS at this; unfold wCell wRat wBigInt at *; omega)
      have O8 := Lib.hid y2_g0; clear y2_g0
      have W8 : Hid (wIntS x.2.2.1.2 ≤ 1048576) := Lib.hid (by have := wsum_el (f := wCell) HX.out; have := HL.out; unfold wCellS at this; unfold wCell wRat wBigInt at *; omega)
      have O10 := Lib.hid y3_0_g0; clear y3_0_g0
      have W10 : Hid (wIntS x.2.2.2.1.1.2 ≤ 1048576) := Lib.hid (by have := wsum_el (f := wCell) HX.out; have := HL.out; unfold wCellS at this; unfold wCell wRat wBigInt at *; omega)
      have O11 := Lib.hid y3_g0; clear y3_g0
      have W11 : Hid (wIntS x.2.2.2.1.2 ≤ 1048576) := Lib.hid (by have := wsum_el (f := wCell) HX.out; have := HL.out; unfold wCellS at this; unfold wCell wRat wBigInt at *; omega)
      have O13 := Lib.hid y4_0_g0; clear y4_0_g0
      have W13 : Hid (wIntS x.2.2.2.2.1.1.2 ≤ 1048576) := Lib.hid (by have := wsum_el (f := wCell) HX.out; have := HL.out; unfold wCellS at this; unfold wCell wRat wBigInt at *; omega)
      have O14 := Lib.hid y4_g0; clear y4_g0
      have W14 : Hid (wIntS x.2.2.2.2.1.2 ≤ 1048576) := Lib.hid (by have := wsum_el (f := wCell) HX.out; have := HL.out; unfold wCellS at this; unfold wCell wRat wBigInt at *; omega)
      have O16 := Lib.hid y5_0_g0; clear y5_0_g0
      have W16 : Hid (wIntS x.2.2.2.2.2.1.2 ≤ 1048576) := Lib.hid (by have := wsum_el (f := wCell) HX.out; have := HL.out; unfold wCellS at this; unfold wCell wRat wBigInt at *; omega)
      have O17 := Lib.hid y5_g0; clear y5_g0
      have W17 : Hid (wIntS x.2.2.2.2.2.2 ≤ 1048576) := Lib.hid (by have := wsum_el (f := wCell) HX.out; have := HL.out; unfold wCellS at this; unfold wCell wRat wBigInt at *; omega)
      have hce : ceCell x = 1 + cIntS x.1.1.2 + cIntS x.1.2 + 1 + cIntS x.2.1.1.2 + cIntS x.2.1.2 + 1 + cIntS x.2.2.1.1.2 + cIntS x.2.2.1.2 + 1 + cIntS x.2.2.2.1.1.2 + cIntS x.2.2.2.1.2 + 1 + cIntS x.2.2.2.2.1.1.2 + cIntS x.2.2.2.2.1.2 + 1 + cIntS x.2.2.2.2.2.1.2 + cIntS x.2.2.2.2.2.2 := rfl
      rw [hce] at hse
      have p0 : wr.cell? ⟨g, k * 18, none⟩ = some (.bool x.1.1.1) := FO.cell (j := 0) rfl
      have u0 : wr.frozen? ⟨g, k * 18, none⟩ = false := FO.free _
      have p1 : wr.cell? ⟨g, k * 18 + 1, none⟩ = some (.slice y0_0_z1 y0_0_n1 y0_0_y1) := FO.cell (j := 1) rfl
      have u1 : wr.frozen? ⟨g, k * 18 + 1, none⟩ = false := FO.free _
      have p2 : wr.cell? ⟨g, k * 18 + 2, none⟩ = some (.slice y0_z1 y0_n1 y0_y1) := FO.cell (j := 2) rfl
      have u2 : wr.frozen? ⟨g, k * 18 + 2, none⟩ = false := FO.free _
      have p3 : wr.cell? ⟨g, k * 18 + 3, none⟩ = some (.bool x.2.1.1.1) := FO.cell (j := 3) rfl
      have u3 : wr.frozen? ⟨g, k * 18 + 3, none⟩ = false := FO.free _
      have p4 : wr.cell? ⟨g, k * 18 + 4, none⟩ = some (.slice y1_0_z1 y1_0_n1 y1_0_y1) := FO.cell (j := 4) rfl
      have u4 : wr.frozen? ⟨g, k * 18 + 4, none⟩ = false := FO.free _
      have p5 : wr.cell? ⟨g, k * 18 + 5, none⟩ = some (.slice y1_z1 y1_n1 y1_y1) := FO.cell (j := 5) rfl
      have u5 : wr.frozen? ⟨g, k * 18 + 5, none⟩ = false := FO.free _
      have p6 : wr.cell? ⟨g, k * 18 + 6, none⟩ = some (.bool x.2.2.1.1.1) := FO.cell (j := 6) rfl
      have u6 : wr.frozen? ⟨g, k * 18 + 6, none⟩ = false := FO.free _
      have p7 : wr.cell? ⟨g, k * 18 + 7, none⟩ = some (.slice y2_0_z1 y2_0_n1 y2_0_y1) := FO.cell (j := 7) rfl
      have u7 : wr.frozen? ⟨g, k * 18 + 7, none⟩ = false := FO.free _
      have p8 : wr.cell? ⟨g, k * 18 + 8, none⟩ = some (.slice y2_z1 y2_n1 y2_y1) := FO.cell (j := 8) rfl
      have u8 : wr.frozen? ⟨g, k * 18 + 8, none⟩ = false := FO.free _
      have p9 : wr.cell? ⟨g, k * 18 + 9, none⟩ = some (.bool x.2.2.2.1.1.1) := FO.cell (j := 9) rfl
      have u9 : wr.frozen? ⟨g, k * 18 + 9, none⟩ = false := FO.free _
      have p10 : wr.cell? ⟨g, k * 18 + 10, none⟩ = some (.slice y3_0_z1 y3_0_n1 y3_0_y1) := FO.cell (j := 10) rfl
      have u10 : wr.frozen? ⟨g, k * 18 + 10, none⟩ = false := FO.free _
      have p11 : wr.cell? ⟨g, k * 18 + 11, none⟩ = some (.slice y3_z1 y3_n1 y3_y1) := FO.cell (j := 11) rfl
      have u11 : wr.frozen? ⟨g, k * 18 + 11, none⟩ = false := FO.free _
      have p12 : wr.cell? ⟨g, k * 18 + 12, none⟩ = some (.bool x.2.2.2.2.1.1.1) := FO.cell (j := 12) rfl
      have u12 : wr.frozen? ⟨g, k * 18 + 12, none⟩ = false := FO.free _
      have p13 : wr.cell? ⟨g, k * 18 + 13, none⟩ = some (.slice y4_0_z1 y4_0_n1 y4_0_y1) := FO.cell (j := 13) rfl
      have u13 : wr.frozen? ⟨g, k * 18 + 13, none⟩ = false := FO.free _
      have p14 : wr.cell? ⟨g, k * 18 + 14, none⟩ = some (.slice y4_z1 y4_n1 y4_y1) := FO.cell (j := 14) rfl
      have u14 : wr.frozen? ⟨g, k * 18 + 14, none⟩ = false := FO.free _
      have p15 : wr.cell? ⟨g, k * 18 + 15, none⟩ = some (.bool x.2.2.2.2.2.1.1) := FO.cell (j := 15) rfl
      have u15 : wr.frozen? ⟨g, k * 18 + 15, none⟩ = false := FO.free _
      have p16 : wr.cell? ⟨g, k * 18 + 16, none⟩ = some (.slice y5_0_z1 y5_0_n1 y5_0_y1) := FO.cell (j := 16) rfl
      have u16 : wr.frozen? ⟨g, k * 18 + 16, none⟩ = false := FO.free _
      have p17 : wr.cell? ⟨g, k * 18 + 17, none⟩ = some (.slice y5_z1 y5_n1 y5_y1) := FO.cell (j := 17) rfl
      have u17 : wr.frozen? ⟨g, k * 18 + 17, none⟩ = false := FO.free _
      have FOh := Lib.hid FO; clear FO
      go_wp2_with fail
      refine (laws_markIntS_ y0_0_d0 _ x.1.1.2 _ _ (Ty.own_turns O1.out ((Turns.refl [g] _).setCell (.inl (by simp)) _) (fun k hk hk' => by simp at hk'; subst hk'; exact gn0 hk)) n0_ (by omega) (by omega) W1.out).mono ?_
      rintro e w1 ⟨rfl, T1, P1⟩
      have O1x := Lib.hid P1; clear P1 O1; have O1 := O1x; clear O1x
      have O2x := Lib.hid (Ty.own_turns (Ty.own_turns O2.out ((Turns.refl [g] _).setCell (.inl (by simp)) _) (fun k hk hk' => by simp at hk'; subst hk'; exact gn1 hk)) T1 (fun k hk hk' => d0_ k hk' k (by simp [hk]) rfl)); clear O2; have O2 := O2x; clear O2x
      have O4x := Lib.hid (Ty.own_turns (Ty.own_turns O4.out ((Turns.refl [g] _).setCell (.inl (by simp)) _) (fun k hk hk' => by simp at hk'; subst hk'; exact gn2 hk)) T1 (fun k hk hk' => d0_ k hk' k (by simp [hk]) rfl)); clear O4; have O4 := O4x; clear O4x
      have O5x := Lib.hid (Ty.own_turns (Ty.own_turns O5.out ((Turns.refl [g] _).setCell (.inl (by simp)) _) (fun k hk hk' => by simp at hk'; subst hk'; exact gn3 hk)) T1 (fun k hk hk' => d0_ k hk' k (by simp [hk]) rfl)); clear O5; have O5 := O5x; clear O5x
      have O7x := Lib.hid (Ty.own_turns (Ty.own_turns O7.out ((Turns.refl [g] _).setCell (.inl (by simp)) _) (fun k hk hk' => by simp at hk'; subst hk'; exact gn4 hk)) T1 (fun k hk hk' => d0_ k hk' k (by simp [hk]) rfl)); clear O7; have O7 := O7x; clear O7x
      have O8x := Lib.hid (Ty.own_turns (Ty.own_turns O8.out ((Turns.refl [g] _).setCell (.inl (by simp)) _) (fun k hk hk' => by simp at hk'; subst hk'; exact gn5 hk)) T1 (fun k hk hk' => d0_ k hk' k (by simp [hk]) rfl)); clear O8; have O8 := O8x; clear O8x
      have O10x := Lib.hid (Ty.own_turns (Ty.own_turns O10.out ((Turns.refl [g] _).setCell (.inl (by simp)) _) (fun k hk hk' => by simp at hk'; subst hk'; exact gn6 hk)) T1 (fun k hk hk' => d0_ k hk' k (by simp [hk]) rfl)); clear O10; have O10 := O10x; clear O10x
      have O11x := Lib.hid (Ty.own_turns (Ty.own_turns O11.out ((Turns.refl [g] _).setCell (.inl (by simp)) _) (fun k hk hk' => by simp at hk'; subst hk'; exact gn7 hk)) T1 (fun k hk hk' => d0_ k hk' k (by simp [hk]) rfl)); clear O11; have O11 := O11x; clear O11x
      have O13x := Lib.hid (Ty.own_turns (Ty.own_turns O13.out ((Turns.refl [g] _).setCell (.inl (by simp)) _) (fun k hk hk' => by simp at hk'; subst hk'; exact gn8 hk)) T1 (fun k hk hk' => d0_ k hk' k (by simp [hk]) rfl)); clear O13; have O13 := O13x; clear O13x
      have O14x := Lib.hid (Ty.own_turns (Ty.own_turns O14.out ((Turns.refl [g] _).setCell (.inl (by simp)) _) (fun k hk hk' => by simp at hk'; subst hk'; exact gn9 hk)) T1 (fun k hk hk' => d0_ k hk' k (by simp [hk]) rfl)); clear O14; have O14 := O14x; clear O14x
      have O16x := Lib.hid (Ty.own_turns (Ty.own_turns O16.out ((Turns.refl [g] _).setCell (.inl (by simp)) _) (fun k hk hk' => by simp at hk'; subst hk'; exact gn10 hk)) T1 (fun k hk hk' => d0_ k hk' k (by simp [hk]) rfl)); clear O16; have O16 := O16x; clear O16x
      have O17x := Lib.hid (Ty.own_turns (Ty.own_turns O17.out ((Turns.refl [g] _).setCell (.inl (by simp)) _) (fun k hk hk' => by simp at hk'; subst hk'; exact gn11 hk)) T1 (fun k hk hk' => d0_ k hk' k (by simp [hk]) rfl)); clear O17; have O17 := O17x; clear O17x
      have FO1 := Lib.hid ((FOh.out.setN (j := 0) (o := k * 18) (by decide) rfl (.bool ((q + ((s : Nat) : Int)) % 3 == 0))).turn T1 (fun k hk => by simp [hk]))
      have TR1 := Lib.hid ((HT.out.setCell (.inl hgm) _).trans (T1.mono (fun k hk => FOh.out.sub k (by simp [hk]))))
      have p1_2 : w1.cell? ⟨g, k * 18 + 2, none⟩ = some (.slice y0_z1 y0_n1 y0_y1) := FO1.out.cell (j := 2) rfl
      have u1_2 : w1.frozen? ⟨g, k * 18 + 2, none⟩ = false := FO1.out.free _
      have p1_3 : w1.cell? ⟨g, k * 18 + 3, none⟩ = some (.bool x.2.1.1.1) := FO1.out.cell (j := 3) rfl
      have u1_3 : w1.frozen? ⟨g, k * 18 + 3, none⟩ = false := FO1.out.free _
      have p1_4 : w1.cell? ⟨g, k * 18 + 4, none⟩ = some (.slice y1_0_z1 y1_0_n1 y1_0_y1) := FO1.out.cell (j := 4) rfl
      have u1_4 : w1.frozen? ⟨g, k * 18 + 4, none⟩ = false := FO1.out.free _
      have p1_5 : w1.cell? ⟨g, k * 18 + 5, none⟩ = some (.slice y1_z1 y1_n1 y1_y1) := FO1.out.cell (j := 5) rfl
      have u1_5 : w1.frozen? ⟨g, k * 18 + 5, none⟩ = false := FO1.out.free _
      have p1_6 : w1.cell? ⟨g, k * 18 + 6, none⟩ = some (.bool x.2.2.1.1.1) := FO1.out.cell (j := 6) rfl
      have u1_6 : w1.frozen? ⟨g, k * 18 + 6, none⟩ = false := FO1.out.free _
      have p1_7 : w1.cell? ⟨g, k * 18 + 7, none⟩ = some (.slice y2_0_z1 y2_0_n1 y2_0_y1) := FO1.out.cell (j := 7) rfl
      have u1_7 : w1.frozen? ⟨g, k * 18 + 7, none⟩ = false := FO1.out.free _
      have p1_8 : w1.cell? ⟨g, k * 18 + 8, none⟩ = some (.slice y2_z1 y2_n1 y2_y1) := FO1.out.cell (j := 8) rfl
      have u1_8 : w1.frozen? ⟨g, k * 18 + 8, none⟩ = false := FO1.out.free _
      have p1_9 : w1.cell? ⟨g, k * 18 + 9, none⟩ = some (.bool x.2.2.2.1.1.1) := FO1.out.cell (j := 9) rfl
      have u1_9 : w1.frozen? ⟨g, k * 18 + 9, none⟩ = false := FO1.out.free _
      have p1_10 : w1.cell? ⟨g, k * 18 + 10, none⟩ = some (.slice y3_0_z1 y3_0_n1 y3_0_y1) := FO1.out.cell (j := 10) rfl
      have u1_10 : w1.frozen? ⟨g, k * 18 + 10, none⟩ = false := FO1.out.free _
      have p1_11 : w1.cell? ⟨g, k * 18 + 11, none⟩ = some (.slice y3_z1 y3_n1 y3_y1) := FO1.out.cell (j := 11) rfl
      have u1_11 : w1.frozen? ⟨g, k * 18 + 11, none⟩ = false := FO1.out.free _
      have p1_12 : w1.cell? ⟨g, k * 18 + 12, none⟩ = some (.bool x.2.2.2.2.1.1.1) := FO1.out.cell (j := 12) rfl
      have u1_12 : w1.frozen? ⟨g, k * 18 + 12, none⟩ = false := FO1.out.free _
      have p1_13 : w1.cell? ⟨g, k * 18 + 13, none⟩ = some (.slice y4_0_z1 y4_0_n1 y4_0_y1) := FO1.out.cell (j := 13) rfl
      have u1_13 : w1.frozen? ⟨g, k * 18 + 13, none⟩ = false := FO1.out.free _
      have p1_14 : w1.cell? ⟨g, k * 18 + 14, none⟩ = some (.slice y4_z1 y4_n1 y4_y1) := FO1.out.cell (j := 14) rfl
      have u1_14 : w1.frozen? ⟨g, k * 18 + 14, none⟩ = false := FO1.out.free _
      have p1_15 : w1.cell? ⟨g, k * 18 + 15, none⟩ = some (.bool x.2.2.2.2.2.1.1) := FO1.out.cell (j := 15) rfl
      have u1_15 : w1.frozen? ⟨g, k * 18 + 15, none⟩ = false := FO1.out.free _
      have p1_16 : w1.cell? ⟨g, k * 18 + 16, none⟩ = some (.slice y5_0_z1 y5_0_n1 y5_0_y1) := FO1.out.cell (j := 16) rfl
      have u1_16 : w1.frozen? ⟨g, k * 18 + 16, none⟩ = false := FO1.out.free _
      have p1_17 : w1.cell? ⟨g, k * 18 + 17, none⟩ = some (.slice y5_z1 y5_n1 y5_y1) := FO1.out.cell (j := 17) rfl
      have u1_17 : w1.frozen? ⟨g, k * 18 + 17, none⟩ = false := FO1.out.free _
      go_wp2_with fail
      refine (laws_markIntS_ y0_d0 _ x.1.2 _ _ O2.out n1_ (by omega) (by omega) W2.out).mono ?_
      rintro e w2 ⟨rfl, T2, P2⟩
      have O1x := Lib.hid (Ty.own_turns O1.out T2 (fun k hk hk' => d0_ k hk k (by simp [hk']) rfl)); clear O1; have O1 := O1x; clear O1x
      have O2x := Lib.hid P2; clear P2 O2; have O2 := O2x; clear O2x
      have O4x := Lib.hid (Ty.own_turns O4.out T2 (fun k hk hk' => d1_ k hk' k (by simp [hk]) rfl)); clear O4; have O4 := O4x; clear O4x
      have O5x := Lib.hid (Ty.own_turns O5.out T2 (fun k hk hk' => d1_ k hk' k (by simp [hk]) rfl)); clear O5; have O5 := O5x; clear O5x
      have O7x := Lib.hid (Ty.own_turns O7.out T2 (fun k hk hk' => d1_ k hk' k (by simp [hk]) rfl)); clear O7; have O7 := O7x; clear O7x
      have O8x := Lib.hid (Ty.own_turns O8.out T2 (fun k hk hk' => d1_ k hk' k (by simp [hk]) rfl)); clear O8; have O8 := O8x; clear O8x
      have O10x := Lib.hid (Ty.own_turns O10.out T2 (fun k hk hk' => d1_ k hk' k (by simp [hk]) rfl)); clear O10; have O10 := O10x; clear O10x
      have O11x := Lib.hid (Ty.own_turns O11.out T2 (fun k hk hk' => d1_ k hk' k (by simp [hk]) rfl)); clear O11; have O11 := O11x; clear O11x
      have O13x := Lib.hid (Ty.own_turns O13.out T2 (fun k hk hk' => d1_ k hk' k (by simp [hk]) rfl)); clear O13; have O13 := O13x; clear O13x
      have O14x := Lib.hid (Ty.own_turns O14.out T2 (fun k hk hk' => d1_ k hk' k (by simp [hk]) rfl)); clear O14; have O14 := O14x; clear O14x
      have O16x := Lib.hid (Ty.own_turns O16.out T2 (fun k hk hk' => d1_ k hk' k (by simp [hk]) rfl)); clear O16; have O16 := O16x; clear O16x
      have O17x := Lib.hid (Ty.own_turns O17.out T2 (fun k hk hk' => d1_ k hk' k (by simp [hk]) rfl)); clear O17; have O17 := O17x; clear O17x
      have FO2 := Lib.hid (FO1.out.turn T2 (fun k hk => by simp [hk]))
      have TR2 := Lib.hid (TR1.out.trans (T2.mono (fun k hk => FOh.out.sub k (by simp [hk]))))
      have p2_3 : w2.cell? ⟨g, k * 18 + 3, none⟩ = some (.bool x.2.1.1.1) := FO2.out.cell (j := 3) rfl
      have u2_3 : w2.frozen? ⟨g, k * 18 + 3, none⟩ = false := FO2.out.free _
      have p2_4 : w2.cell? ⟨g, k * 18 + 4, none⟩ = some (.slice y1_0_z1 y1_0_n1 y1_0_y1) := FO2.out.cell (j := 4) rfl
      have u2_4 : w2.frozen? ⟨g, k * 18 + 4, none⟩ = false := FO2.out.free _
      have p2_5 : w2.cell? ⟨g, k * 18 + 5, none⟩ = some (.slice y1_z1 y1_n1 y1_y1) := FO2.out.cell (j := 5) rfl
      have u2_5 : w2.frozen? ⟨g, k * 18 + 5, none⟩ = false := FO2.out.free _
      have p2_6 : w2.cell? ⟨g, k * 18 + 6, none⟩ = some (.bool x.2.2.1.1.1) := FO2.out.cell (j := 6) rfl
      have u2_6 : w2.frozen? ⟨g, k * 18 + 6, none⟩ = false := FO2.out.free _
      have p2_7 : w2.cell? ⟨g, k * 18 + 7, none⟩ = some (.slice y2_0_z1 y2_0_n1 y2_0_y1) := FO2.out.cell (j := 7) rfl
      have u2_7 : w2.frozen? ⟨g, k * 18 + 7, none⟩ = false := FO2.out.free _
      have p2_8 : w2.cell? ⟨g, k * 18 + 8, none⟩ = some (.slice y2_z1 y2_n1 y2_y1) := FO2.out.cell (j := 8) rfl
      have u2_8 : w2.frozen? ⟨g, k * 18 + 8, none⟩ = false := FO2.out.free _
      have p2_9 : w2.cell? ⟨g, k * 18 + 9, none⟩ = some (.bool x.2.2.2.1.1.1) := FO2.out.cell (j := 9) rfl
      have u2_9 : w2.frozen? ⟨g, k * 18 + 9, none⟩ = false := FO2.out.free _
      have p2_10 : w2.cell? ⟨g, k * 18 + 10, none⟩ = some (.slice y3_0_z1 y3_0_n1 y3_0_y1) := FO2.out.cell (j := 10) rfl
      have u2_10 : w2.frozen? ⟨g, k * 18 + 10, none⟩ = false := FO2.out.free _
      have p2_11 : w2.cell? ⟨g, k * 18 + 11, none⟩ = some (.slice y3_z1 y3_n1 y3_y1) := FO2.out.cell (j := 11) rfl
      have u2_11 : w2.frozen? ⟨g, k * 18 + 11, none⟩ = false := FO2.out.free _
      have p2_12 : w2.cell? ⟨g, k * 18 + 12, none⟩ = some (.bool x.2.2.2.2.1.1.1) := FO2.out.cell (j := 12) rfl
      have u2_12 : w2.frozen? ⟨g, k * 18 + 12, none⟩ = false := FO2.out.free _
      have p2_13 : w2.cell? ⟨g, k * 18 + 13, none⟩ = some (.slice y4_0_z1 y4_0_n1 y4_0_y1) := FO2.out.cell (j := 13) rfl
      have u2_13 : w2.frozen? ⟨g, k * 18 + 13, none⟩ = false := FO2.out.free _
      have p2_14 : w2.cell? ⟨g, k * 18 + 14, none⟩ = some (.slice y4_z1 y4_n1 y4_y1) := FO2.out.cell (j := 14) rfl
      have u2_14 : w2.frozen? ⟨g, k * 18 + 14, none⟩ = false := FO2.out.free _
      have p2_15 : w2.cell? ⟨g, k * 18 + 15, none⟩ = some (.bool x.2.2.2.2.2.1.1) := FO2.out.cell (j := 15) rfl
      have u2_15 : w2.frozen? ⟨g, k * 18 + 15, none⟩ = false := FO2.out.free _
      have p2_16 : w2.cell? ⟨g, k * 18 + 16, none⟩ = some (.slice y5_0_z1 y5_0_n1 y5_0_y1) := FO2.out.cell (j := 16) rfl
      have u2_16 : w2.frozen? ⟨g, k * 18 + 16, none⟩ = false := FO2.out.free _
      have p2_17 : w2.cell? ⟨g, k * 18 + 17, none⟩ = some (.slice y5_z1 y5_n1 y5_y1) := FO2.out.cell (j := 17) rfl
      have u2_17 : w2.frozen? ⟨g, k * 18 + 17, none⟩ = false := FO2.out.free _
      go_wp2_with fail
      refine (laws_markIntS_ y1_0_d0 _ x.2.1.1.2 _ _ (Ty.own_turns O4.out ((Turns.refl [g] _).setCell (.inl (by simp)) _) (fun k hk hk' => by simp at hk'; subst hk'; exact gn2 hk)) n2_ (by omega) (by omega) W4.out).mono ?_
      rintro e w3 ⟨rfl, T3, P4⟩
      have O1x := Lib.hid (Ty.own_turns (Ty.own_turns O1.out ((Turns.refl [g] _).setCell (.inl (by simp)) _) (fun k hk hk' => by simp at hk'; subst hk'; exact gn0 hk)) T3 (fun k hk hk' => d0_ k hk k (by simp [hk']) rfl)); clear O1; have O1 := O1x; clear O1x
      have O2x := Lib.hid (Ty.own_turns (Ty.own_turns O2.out ((Turns.refl [g] _).setCell (.inl (by simp)) _) (fun k hk hk' => by simp at hk'; subst hk'; exact gn1 hk)) T3 (fun k hk hk' => d1_ k hk k (by simp [hk']) rfl)); clear O2; have O2 := O2x; clear O2x
      have O4x := Lib.hid P4; clear P4 O4; have O4 := O4x; clear O4x
      have O5x := Lib.hid (Ty.own_turns (Ty.own_turns O5.out ((Turns.refl [g] _).setCell (.inl (by simp)) _) (fun k hk hk' => by simp at hk'; subst hk'; exact gn3 hk)) T3 (fun k hk hk' => d2_ k hk' k (by simp [hk]) rfl)); clear O5; have O5 := O5x; clear O5x
      have O7x := Lib.hid (Ty.own_turns (Ty.own_turns O7.out ((Turns.refl [g] _).setCell (.inl (by simp)) _) (fun k hk hk' => by simp at hk'; subst hk'; exact gn4 hk)) T3 (fun k hk hk' => d2_ k hk' k (by simp [hk]) rfl)); clear O7; have O7 := O7x; clear O7x
      have O8x := Lib.hid (Ty.own_turns (Ty.own_turns O8.out ((Turns.refl [g] _).setCell (.inl (by simp)) _) (fun k hk hk' => by simp at hk'; subst hk'; exact gn5 hk)) T3 (fun k hk hk' => d2_ k hk' k (by simp [hk]) rfl)); clear O8; have O8 := O8x; clear O8x
      have O10x := Lib.hid (Ty.own_turns (Ty.own_turns O10.out ((Turns.refl [g] _).setCell (.inl (by simp)) _) (fun k hk hk' => by simp at hk'; subst hk'; exact gn6 hk)) T3 (fun k hk hk' => d2_ k hk' k (by simp [hk]) rfl)); clear O10; have O10 := O10x; clear O10x
      have O11x := Lib.hid (Ty.own_turns (Ty.own_turns O11.out ((Turns.refl [g] _).setCell (.inl (by simp)) _) (fun k hk hk' => by simp at hk'; subst hk'; exact gn7 hk)) T3 (fun k hk hk' => d2_ k hk' k (by simp [hk]) rfl)); clear O11; have O11 := O11x; clear O11x
      have O13x := Lib.hid (Ty.own_turns (Ty.own_turns O13.out ((Turns.refl [g] _).setCell (.inl (by simp)) _) (fun k hk hk' => by simp at hk'; subst hk'; exact gn8 hk)) T3 (fun k hk hk' => d2_ k hk' k (by simp [hk]) rfl)); clear O13; have O13 := O13x; clear O13x
      have O14x := Lib.hid (Ty.own_turns (Ty.own_turns O14.out ((Turns.refl [g] _).setCell (.inl (by simp)) _) (fun k hk hk' => by simp at hk'; subst hk'; exact gn9 hk)) T3 (fun k hk hk' => d2_ k hk' k (by simp [hk]) rfl)); clear O14; have O14 := O14x; clear O14x
      have O16x := Lib.hid (Ty.own_turns (Ty.own_turns O16.out ((Turns.refl [g] _).setCell (.inl (by simp)) _) (fun k hk hk' => by simp at hk'; subst hk'; exact gn10 hk)) T3 (fun k hk hk' => d2_ k hk' k (by simp [hk]) rfl)); clear O16; have O16 := O16x; clear O16x
      have O17x := Lib.hid (Ty.own_turns (Ty.own_turns O17.out ((Turns.refl [g] _).setCell (.inl (by simp)) _) (fun k hk hk' => by simp at hk'; subst hk'; exact gn11 hk)) T3 (fun k hk hk' => d2_ k hk' k (by simp [hk]) rfl)); clear O17; have O17 := O17x; clear O17x
      have FO3 := Lib.hid ((FO2.out.setN (j := 3) (o := k * 18 + 3) (by decide) rfl (.bool ((q + ((s : Nat) : Int) + 1 + ((cIntS x.1.1.2 : Nat) : Int) + ((cIntS x.1.2 : Nat) : Int)) % 3 == 0))).turn T3 (fun k hk => by simp [hk]))
      have TR3 := Lib.hid ((TR2.out.setCell (.inl hgm) _).trans (T3.mono (fun k hk => FOh.out.sub k (by simp [hk]))))
      have p3_5 : w3.cell? ⟨g, k * 18 + 5, none⟩ = some (.slice y1_z1 y1_n1 y1_y1) := FO3.out.cell (j := 5) rfl
      have u3_5 : w3.frozen? ⟨g, k * 18 + 5, none⟩ = false := FO3.out.free _
      have p3_6 : w3.cell? ⟨g, k * 18 + 6, none⟩ = some (.bool x.2.2.1.1.1) := FO3.out.cell (j := 6) rfl
      have u3_6 : w3.frozen? ⟨g, k * 18 + 6, none⟩ = false := FO3.out.free _
      have p3_7 : w3.cell? ⟨g, k * 18 + 7, none⟩ = some (.slice y2_0_z1 y2_0_n1 y2_0_y1) := FO3.out.cell (j := 7) rfl
      have u3_7 : w3.frozen? ⟨g, k * 18 + 7, none⟩ = false := FO3.out.free _
      have p3_8 : w3.cell? ⟨g, k * 18 + 8, none⟩ = some (.slice y2_z1 y2_n1 y2_y1) := FO3.out.cell (j := 8) rfl
      have u3_8 : w3.frozen? ⟨g, k * 18 + 8, none⟩ = false := FO3.out.free _
      have p3_9 : w3.cell? ⟨g, k * 18 + 9, none⟩ = some (.bool x.2.2.2.1.1.1) := FO3.out.cell (j := 9) rfl
      have u3_9 : w3.frozen? ⟨g, k * 18 + 9, none⟩ = false := FO3.out.free _
      have p3_10 : w3.cell? ⟨g, k * 18 + 10, none⟩ = some (.slice y3_0_z1 y3_0_n1 y3_0_y1) := FO3.out.cell (j := 10) rfl
      have u3_10 : w3.frozen? ⟨g, k * 18 + 10, none⟩ = false := FO3.out.free _
      have p3_11 : w3.cell? ⟨g, k * 18 + 11, none⟩ = some (.slice y3_z1 y3_n1 y3_y1) := FO3.out.cell (j := 11) rfl
      have u3_11 : w3.frozen? ⟨g, k * 18 + 11, none⟩ = false := FO3.out.free _
      have p3_12 : w3.cell? ⟨g, k * 18 + 12, none⟩ = some (.bool x.2.2.2.2.1.1.1) := FO3.out.cell (j := 12) rfl
      have u3_12 : w3.frozen? ⟨g, k * 18 + 12, none⟩ = false := FO3.out.free _
      have p3_13 : w3.cell? ⟨g, k * 18 + 13, none⟩ = some (.slice y4_0_z1 y4_0_n1 y4_0_y1) := FO3.out.cell (j := 13) rfl
      have u3_13 : w3.frozen? ⟨g, k * 18 + 13, none⟩ = false := FO3.out.free _
      have p3_14 : w3.cell? ⟨g, k * 18 + 14, none⟩ = some (.slice y4_z1 y4_n1 y4_y1) := FO3.out.cell (j := 14) rfl
      have u3_14 : w3.frozen? ⟨g, k * 18 + 14, none⟩ = false := FO3.out.free _
      have p3_15 : w3.cell? ⟨g, k * 18 + 15, none⟩ = some (.bool x.2.2.2.2.2.1.1) := FO3.out.cell (j := 15) rfl
      have u3_15 : w3.frozen? ⟨g, k * 18 + 15, none⟩ = false := FO3.out.free _
      have p3_16 : w3.cell? ⟨g, k * 18 + 16, none⟩ = some (.slice y5_0_z1 y5_0_n1 y5_0_y1) := FO3.out.cell (j := 16) rfl
      have u3_16 : w3.frozen? ⟨g, k * 18 + 16, none⟩ = false := FO3.out.free _
      have p3_17 : w3.cell? ⟨g, k * 18 + 17, none⟩ = some (.slice y5_z1 y5_n1 y5_y1) := FO3.out.cell (j := 17) rfl
      have u3_17 : w3.frozen? ⟨g, k * 18 + 17, none⟩ = false := FO3.out.free _
      go_wp2_with fail
      refine (laws_markIntS_ y1_d0 _ x.2.1.2 _ _ O5.out n3_ (by omega) (by omega) W5.out).mono ?_
      rintro e w4 ⟨rfl, T4, P5⟩
      have O1x := Lib.hid (Ty.own_turns O1.out T4 (fun k hk hk' => d0_ k hk k (by simp [hk']) rfl)); clear O1; have O1 := O1x; clear O1x
      have O2x := Lib.hid (Ty.own_turns O2.out T4 (fun k hk hk' => d1_ k hk k (by simp [hk']) rfl)); clear O2; have O2 := O2x; clear O2x
      have O4x := Lib.hid (Ty.own_turns O4.out T4 (fun k hk hk' => d2_ k hk k (by simp [hk']) rfl)); clear O4; have O4 := O4x; clear O4x
      have O5x := Lib.hid P5; clear P5 O5; have O5 := O5x; clear O5x
      have O7x := Lib.hid (Ty.own_turns O7.out T4 (fun k hk hk' => d3_ k hk' k (by simp [hk]) rfl)); clear O7; have O7 := O7x; clear O7x
      have O8x := Lib.hid (Ty.own_turns O8.out T4 (fun k hk hk' => d3_ k hk' k (by simp [hk]) rfl)); clear O8; have O8 := O8x; clear O8x
      have O10x := Lib.hid (Ty.own_turns O10.out T4 (fun k hk hk' => d3_ k hk' k (by simp [hk]) rfl)); clear O10; have O10 := O10x; clear O10x
      have O11x := Lib.hid (Ty.own_turns O11.out T4 (fun k hk hk' => d3_ k hk' k (by simp [hk]) rfl)); clear O11; have O11 := O11x; clear O11x
      have O13x := Lib.hid (Ty.own_turns O13.out T4 (fun k hk hk' => d3_ k hk' k (by simp [hk]) rfl)); clear O13; have O13 := O13x; clear O13x
      have O14x := Lib.hid (Ty.own_turns O14.out T4 (fun k hk hk' => d3_ k hk' k (by simp [hk]) rfl)); clear O14; have O14 := O14x; clear O14x
      have O16x := Lib.hid (Ty.own_turns O16.out T4 (fun k hk hk' => d3_ k hk' k (by simp [hk]) rfl)); clear O16; have O16 := O16x; clear O16x
      have O17x := Lib.hid (Ty.own_turns O17.out T4 (fun k hk hk' => d3_ k hk' k (by simp [hk]) rfl)); clear O17; have O17 := O17x; clear O17x
      have FO4 := Lib.hid (FO3.out.turn T4 (fun k hk => by simp [hk]))
      have TR4 := Lib.hid (TR3.out.trans (T4.mono (fun k hk => FOh.out.sub k (by simp [hk]))))
      have p4_6 : w4.cell? ⟨g, k * 18 + 6, none⟩ = some (.bool x.2.2.1.1.1) := FO4.out.cell (j := 6) rfl
      have u4_6 : w4.frozen? ⟨g, k * 18 + 6, none⟩ = false := FO4.out.free _
      have p4_7 : w4.cell? ⟨g, k * 18 + 7, none⟩ = some (.slice y2_0_z1 y2_0_n1 y2_0_y1) := FO4.out.cell (j := 7) rfl
      have u4_7 : w4.frozen? ⟨g, k * 18 + 7, none⟩ = false := FO4.out.free _
      have p4_8 : w4.cell? ⟨g, k * 18 + 8, none⟩ = some (.slice y2_z1 y2_n1 y2_y1) := FO4.out.cell (j := 8) rfl
      have u4_8 : w4.frozen? ⟨g, k * 18 + 8, none⟩ = false := FO4.out.free _
      have p4_9 : w4.cell? ⟨g, k * 18 + 9, none⟩ = some (.bool x.2.2.2.1.1.1) := FO4.out.cell (j := 9) rfl
      have u4_9 : w4.frozen? ⟨g, k * 18 + 9, none⟩ = false := FO4.out.free _
      have p4_10 : w4.cell? ⟨g, k * 18 + 10, none⟩ = some (.slice y3_0_z1 y3_0_n1 y3_0_y1) := FO4.out.cell (j := 10) rfl
      have u4_10 : w4.frozen? ⟨g, k * 18 + 10, none⟩ = false := FO4.out.free _
      have p4_11 : w4.cell? ⟨g, k * 18 + 11, none⟩ = some (.slice y3_z1 y3_n1 y3_y1) := FO4.out.cell (j := 11) rfl
      have u4_11 : w4.frozen? ⟨g, k * 18 + 11, none⟩ = false := FO4.out.free _
      have p4_12 : w4.cell? ⟨g, k * 18 + 12, none⟩ = some (.bool x.2.2.2.2.1.1.1) := FO4.out.cell (j := 12) rfl
      have u4_12 : w4.frozen? ⟨g, k * 18 + 12, none⟩ = false := FO4.out.free _
      have p4_13 : w4.cell? ⟨g, k * 18 + 13, none⟩ = some (.slice y4_0_z1 y4_0_n1 y4_0_y1) := FO4.out.cell (j := 13) rfl
      have u4_13 : w4.frozen? ⟨g, k * 18 + 13, none⟩ = false := FO4.out.free _
      have p4_14 : w4.cell? ⟨g, k * 18 + 14, none⟩ = some (.slice y4_z1 y4_n1 y4_y1) := FO4.out.cell (j := 14) rfl
      have u4_14 : w4.frozen? ⟨g, k * 18 + 14, none⟩ = false := FO4.out.free _
      have p4_15 : w4.cell? ⟨g, k * 18 + 15, none⟩ = some (.bool x.2.2.2.2.2.1.1) := FO4.out.cell (j := 15) rfl
      have u4_15 : w4.frozen? ⟨g, k * 18 + 15, none⟩ = false := FO4.out.free _
      have p4_16 : w4.cell? ⟨g, k * 18 + 16, none⟩ = some (.slice y5_0_z1 y5_0_n1 y5_0_y1) := FO4.out.cell (j := 16) rfl
      have u4_16 : w4.frozen? ⟨g, k * 18 + 16, none⟩ = false := FO4.out.free _
      have p4_17 : w4.cell? ⟨g, k * 18 + 17, none⟩ = some (.slice y5_z1 y5_n1 y5_y1) := FO4.out.cell (j := 17) rfl
      have u4_17 : w4.frozen? ⟨g, k * 18 + 17, none⟩ = false := FO4.out.free _
      go_wp2_with fail
      refine (laws_markIntS_ y2_0_d0 _ x.2.2.1.1.2 _ _ (Ty.own_turns O7.out ((Turns.refl [g] _).setCell (.inl (by simp)) _) (fun k hk hk' => by simp at hk'; subst hk'; exact gn4 hk)) n4_ (by omega) (by omega) W7.out).mono ?_
      rintro e w5 ⟨rfl, T5, P7⟩
      have O1x := Lib.hid (Ty.own_turns (Ty.own_turns O1.out ((Turns.refl [g] _).setCell (.inl (by simp)) _) (fun k hk hk' => by simp at hk'; subst hk'; exact gn0 hk)) T5 (fun k hk hk' => d0_ k hk k (by simp [hk']) rfl)); clear O1; have O1 := O1x; clear O1x
      have O2x := Lib.hid (Ty.own_turns (Ty.own_turns O2.out ((Turns.refl [g] _).setCell (.inl (by simp)) _) (fun k hk hk' => by simp at hk'; subst hk'; exact gn1 hk)) T5 (fun k hk hk' => d1_ k hk k (by simp [hk']) rfl)); clear O2; have O2 := O2x; clear O2x
      have O4x := Lib.hid (Ty.own_turns (Ty.own_turns O4.out ((Turns.refl [g] _).setCell (.inl (by simp)) _) (fun k hk hk' => by simp at hk'; subst hk'; exact gn2 hk)) T5 (fun k hk hk' => d2_ k hk k (by simp [hk']) rfl)); clear O4; have O4 := O4x; clear O4x
      have O5x := Lib.hid (Ty.own_turns (Ty.own_turns O5.out ((Turns.refl [g] _).setCell (.inl (by simp)) _) (fun k hk hk' => by simp at hk'; subst hk'; exact gn3 hk)) T5 (fun k hk hk' => d3_ k hk k (by simp [hk']) rfl)); clear O5; have O5 := O5x; clear O5x
      have O7x := Lib.hid P7; clear P7 O7; have O7 := O7x; clear O7x
      have O8x := Lib.hid (Ty.own_turns (Ty.own_turns O8.out ((Turns.refl [g] _).setCell (.inl (by simp)) _) (fun k hk hk' => by simp at hk'; subst hk'; exact gn5 hk)) T5 (fun k hk hk' => d4_ k hk' k (by simp [hk]) rfl)); clear O8; have O8 := O8x; clear O8x
      have O10x := Lib.hid (Ty.own_turns (Ty.own_turns O10.out ((Turns.refl [g] _).setCell (.inl (by simp)) _) (fun k hk hk' => by simp at hk'; subst hk'; exact gn6 hk)) T5 (fun k hk hk' => d4_ k hk' k (by simp [hk]) rfl)); clear O10; have O10 := O10x; clear O10x
      have O11x := Lib.hid (Ty.own_turns (Ty.own_turns O11.out ((Turns.refl [g] _).setCell (.inl (by simp)) _) (fun k hk hk' => by simp at hk'; subst hk'; exact gn7 hk)) T5 (fun k hk hk' => d4_ k hk' k (by simp [hk]) rfl)); clear O11; have O11 := O11x; clear O11x
      have O13x := Lib.hid (Ty.own_turns (Ty.own_turns O13.out ((Turns.refl [g] _).setCell (.inl (by simp)) _) (fun k hk hk' => by simp at hk'; subst hk'; exact gn8 hk)) T5 (fun k hk hk' => d4_ k hk' k (by simp [hk]) rfl)); clear O13; have O13 := O13x; clear O13x
      have O14x := Lib.hid (Ty.own_turns (Ty.own_turns O14.out ((Turns.refl [g] _).setCell (.inl (by simp)) _) (fun k hk hk' => by simp at hk'; subst hk'; exact gn9 hk)) T5 (fun k hk hk' => d4_ k hk' k (by simp [hk]) rfl)); clear O14; have O14 := O14x; clear O14x
      have O16x := Lib.hid (Ty.own_turns (Ty.own_turns O16.out ((Turns.refl [g] _).setCell (.inl (by simp)) _) (fun k hk hk' => by simp at hk'; subst hk'; exact gn10 hk)) T5 (fun k hk hk' => d4_ k hk' k (by simp [hk]) rfl)); clear O16; have O16 := O16x; clear O16x
      have O17x := Lib.hid (Ty.own_turns (Ty.own_turns O17.out ((Turns.refl [g] _).setCell (.inl (by simp)) _) (fun k hk hk' => by simp at hk'; subst hk'; exact gn11 hk)) T5 (fun k hk hk' => d4_ k hk' k (by simp [hk]) rfl)); clear O17; have O17 := O17x; clear O17x
      have FO5 := Lib.hid ((FO4.out.setN (j := 6) (o := k * 18 + 6) (by decide) rfl (.bool ((q + ((s : Nat) : Int) + 1 + ((cIntS x.1.1.2 : Nat) : Int) + ((cIntS x.1.2 : Nat) : Int) + 1 + ((cIntS x.2.1.1.2 : Nat) : Int) + ((cIntS x.2.1.2 : Nat) : Int)) % 3 == 0))).turn T5 (fun k hk => by simp [hk]))
      have TR5 := Lib.hid ((TR4.out.setCell (.inl hgm) _).trans (T5.mono (fun k hk => FOh.out.sub k (by simp [hk]))))
      have p5_8 : w5.cell? ⟨g, k * 18 + 8, none⟩ = some (.slice y2_z1 y2_n1 y2_y1) := FO5.out.cell (j := 8) rfl
      have u5_8 : w5.frozen? ⟨g, k * 18 + 8, none⟩ = false := FO5.out.free _
      have p5_9 : w5.cell? ⟨g, k * 18 + 9, none⟩ = some (.bool x.2.2.2.1.1.1) := FO5.out.cell (j := 9) rfl
      have u5_9 : w5.frozen? ⟨g, k * 18 + 9, none⟩ = false := FO5.out.free _
      have p5_10 : w5.cell? ⟨g, k * 18 + 10, none⟩ = some (.slice y3_0_z1 y3_0_n1 y3_0_y1) := FO5.out.cell (j := 10) rfl
      have u5_10 : w5.frozen? ⟨g, k * 18 + 10, none⟩ = false := FO5.out.free _
      have p5_11 : w5.cell? ⟨g, k * 18 + 11, none⟩ = some (.slice y3_z1 y3_n1 y3_y1) := FO5.out.cell (j := 11) rfl
      have u5_11 : w5.frozen? ⟨g, k * 18 + 11, none⟩ = false := FO5.out.free _
      have p5_12 : w5.cell? ⟨g, k * 18 + 12, none⟩ = some (.bool x.2.2.2.2.1.1.1) := FO5.out.cell (j := 12) rfl
      have u5_12 : w5.frozen? ⟨g, k * 18 + 12, none⟩ = false := FO5.out.free _
      have p5_13 : w5.cell? ⟨g, k * 18 + 13, none⟩ = some (.slice y4_0_z1 y4_0_n1 y4_0_y1) := FO5.out.cell (j := 13) rfl
      have u5_13 : w5.frozen? ⟨g, k * 18 + 13, none⟩ = false := FO5.out.free _
      have p5_14 : w5.cell? ⟨g, k * 18 + 14, none⟩ = some (.slice y4_z1 y4_n1 y4_y1) := FO5.out.cell (j := 14) rfl
      have u5_14 : w5.frozen? ⟨g, k * 18 + 14, none⟩ = false := FO5.out.free _
      have p5_15 : w5.cell? ⟨g, k * 18 + 15, none⟩ = some (.bool x.2.2.2.2.2.1.1) := FO5.out.cell (j := 15) rfl
      have u5_15 : w5.frozen? ⟨g, k * 18 + 15, none⟩ = false := FO5.out.free _
      have p5_16 : w5.cell? ⟨g, k * 18 + 16, none⟩ = some (.slice y5_0_z1 y5_0_n1 y5_0_y1) := FO5.out.cell (j := 16) rfl
      have u5_16 : w5.frozen? ⟨g, k * 18 + 16, none⟩ = false := FO5.out.free _
      have p5_17 : w5.cell? ⟨g, k * 18 + 17, none⟩ = some (.slice y5_z1 y5_n1 y5_y1) := FO5.out.cell (j := 17) rfl
      have u5_17 : w5.frozen? ⟨g, k * 18 + 17, none⟩ = false := FO5.out.free _
      go_wp2_with fail
      refine (laws_markIntS_ y2_d0 _ x.2.2.1.2 _ _ O8.out n5_ (by omega) (by omega) W8.out).mono ?_
      rintro e w6 ⟨rfl, T6, P8⟩
      have O1x := Lib.hid (Ty.own_turns O1.out T6 (fun k hk hk' => d0_ k hk k (by simp [hk']) rfl)); clear O1; have O1 := O1x; clear O1x
      have O2x := Lib.hid (Ty.own_turns O2.out T6 (fun k hk hk' => d1_ k hk k (by simp [hk']) rfl)); clear O2; have O2 := O2x; clear O2x
      have O4x := Lib.hid (Ty.own_turns O4.out T6 (fun k hk hk' => d2_ k hk k (by simp [hk']) rfl)); clear O4; have O4 := O4x; clear O4x
      have O5x := Lib.hid (Ty.own_turns O5.out T6 (fun k hk hk' => d3_ k hk k (by simp [hk']) rfl)); clear O5; have O5 := O5x; clear O5x
      have O7x := Lib.hid (Ty.own_turns O7.out T6 (fun k hk hk' => d4_ k hk k (by simp [hk']) rfl)); clear O7; have O7 := O7x; clear O7x
      have O8x := Lib.hid P8; clear P8 O8; have O8 := O8x; clear O8x
      have O10x := Lib.hid (Ty.own_turns O10.out T6 (fun k hk hk' => d5_ k hk' k (by simp [hk]) rfl)); clear O10; have O10 := O10x; clear O10x
      have O11x := Lib.hid (Ty.own_turns O11.out T6 (fun k hk hk' => d5_ k hk' k (by simp [hk]) rfl)); clear O11; have O11 := O11x; clear O11x
      have O13x := Lib.hid (Ty.own_turns O13.out T6 (fun k hk hk' => d5_ k hk' k (by simp [hk]) rfl)); clear O13; have O13 := O13x; clear O13x
      have O14x := Lib.hid (Ty.own_turns O14.out T6 (fun k hk hk' => d5_ k hk' k (by simp [hk]) rfl)); clear O14; have O14 := O14x; clear O14x
      have O16x := Lib.hid (Ty.own_turns O16.out T6 (fun k hk hk' => d5_ k hk' k (by simp [hk]) rfl)); clear O16; have O16 := O16x; clear O16x
      have O17x := Lib.hid (Ty.own_turns O17.out T6 (fun k hk hk' => d5_ k hk' k (by simp [hk]) rfl)); clear O17; have O17 := O17x; clear O17x
      have FO6 := Lib.hid (FO5.out.turn T6 (fun k hk => by simp [hk]))
      have TR6 := Lib.hid (TR5.out.trans (T6.mono (fun k hk => FOh.out.sub k (by simp [hk]))))
      have p6_9 : w6.cell? ⟨g, k * 18 + 9, none⟩ = some (.bool x.2.2.2.1.1.1) := FO6.out.cell (j := 9) rfl
      have u6_9 : w6.frozen? ⟨g, k * 18 + 9, none⟩ = false := FO6.out.free _
      have p6_10 : w6.cell? ⟨g, k * 18 + 10, none⟩ = some (.slice y3_0_z1 y3_0_n1 y3_0_y1) := FO6.out.cell (j := 10) rfl
      have u6_10 : w6.frozen? ⟨g, k * 18 + 10, none⟩ = false := FO6.out.free _
      have p6_11 : w6.cell? ⟨g, k * 18 + 11, none⟩ = some (.slice y3_z1 y3_n1 y3_y1) := FO6.out.cell (j := 11) rfl
      have u6_11 : w6.frozen? ⟨g, k * 18 + 11, none⟩ = false := FO6.out.free _
      have p6_12 : w6.cell? ⟨g, k * 18 + 12, none⟩ = some (.bool x.2.2.2.2.1.1.1) := FO6.out.cell (j := 12) rfl
      have u6_12 : w6.frozen? ⟨g, k * 18 + 12, none⟩ = false := FO6.out.free _
      have p6_13 : w6.cell? ⟨g, k * 18 + 13, none⟩ = some (.slice y4_0_z1 y4_0_n1 y4_0_y1) := FO6.out.cell (j := 13) rfl
      have u6_13 : w6.frozen? ⟨g, k * 18 + 13, none⟩ = false := FO6.out.free _
      have p6_14 : w6.cell? ⟨g, k * 18 + 14, none⟩ = some (.slice y4_z1 y4_n1 y4_y1) := FO6.out.cell (j := 14) rfl
      have u6_14 : w6.frozen? ⟨g, k * 18 + 14, none⟩ = false := FO6.out.free _
      have p6_15 : w6.cell? ⟨g, k * 18 + 15, none⟩ = some (.bool x.2.2.2.2.2.1.1) := FO6.out.cell (j := 15) rfl
      have u6_15 : w6.frozen? ⟨g, k * 18 + 15, none⟩ = false := FO6.out.free _
      have p6_16 : w6.cell? ⟨g, k * 18 + 16, none⟩ = some (.slice y5_0_z1 y5_0_n1 y5_0_y1) := FO6.out.cell (j := 16) rfl
      have u6_16 : w6.frozen? ⟨g, k * 18 + 16, none⟩ = false := FO6.out.free _
      have p6_17 : w6.cell? ⟨g, k * 18 + 17, none⟩ = some (.slice y5_z1 y5_n1 y5_y1) := FO6.out.cell (j := 17) rfl
      have u6_17 : w6.frozen? ⟨g, k * 18 + 17, none⟩ = false := FO6.out.free _
      go_wp2_with fail
      refine (laws_markIntS_ y3_0_d0 _ x.2.2.2.1.1.2 _ _ (Ty.own_turns O10.out ((Turns.refl [g] _).setCell (.inl (by simp)) _) (fun k hk hk' => by simp at hk'; subst hk'; exact gn6 hk)) n6_ (by omega) (by omega) W10.out).mono ?_
      rintro e w7 ⟨rfl, T7, P10⟩
      have O1x := Lib.hid (Ty.own_turns (Ty.own_turns O1.out ((Turns.refl [g] _).setCell (.inl (by simp)) _) (fun k hk hk' => by simp at hk'; subst hk'; exact gn0 hk)) T7 (fun k hk hk' => d0_ k hk k (by simp [hk']) rfl)); clear O1; have O1 := O1x; clear O1x
      have O2x := Lib.hid (Ty.own_turns (Ty.own_turns O2.out ((Turns.refl [g] _).setCell (.inl (by simp)) _) (fun k hk hk' => by simp at hk'; subst hk'; exact gn1 hk)) T7 (fun k hk hk' => d1_ k hk k (by simp [hk']) rfl)); clear O2; have O2 := O2x; clear O2x
      have O4x := Lib.hid (Ty.own_turns (Ty.own_turns O4.out ((Turns.refl [g] _).setCell (.inl (by simp)) _) (fun k hk hk' => by simp at hk'; subst hk'; exact gn2 hk)) T7 (fun k hk hk' => d2_ k hk k (by simp [hk']) rfl)); clear O4; have O4 := O4x; clear O4x
      have O5x := Lib.hid (Ty.own_turns (Ty.own_turns O5.out ((Turns.refl [g] _).setCell (.inl (by simp)) _) (fun k hk hk' => by simp at hk'; subst hk'; exact gn3 hk)) T7 (fun k hk hk' => d3_ k hk k (by simp [hk']) rfl)); clear O5; have O5 := O5x; clear O5x
      have O7x := Lib.hid (Ty.own_turns (Ty.own_turns O7.out ((Turns.refl [g] _).setCell (.inl (by simp)) _) (fun k hk hk' => by simp at hk'; subst hk'; exact gn4 hk)) T7 (fun k hk hk' => d4_ k hk k (by simp [hk']) rfl)); clear O7; have O7 := O7x; clear O7x
      have O8x := Lib.hid (Ty.own_turns (Ty.own_turns O8.out ((Turns.refl [g] _).setCell (.inl (by simp)) _) (fun k hk hk' => by simp at hk'; subst hk'; exact gn5 hk)) T7 (fun k hk hk' => d5_ k hk k (by simp [hk']) rfl)); clear O8; have O8 := O8x; clear O8x
      have O10x := Lib.hid P10; clear P10 O10; have O10 := O10x; clear O10x
      have O11x := Lib.hid (Ty.own_turns (Ty.own_turns O11.out ((Turns.refl [g] _).setCell (.inl (by simp)) _) (fun k hk hk' => by simp at hk'; subst hk'; exact gn7 hk)) T7 (fun k hk hk' => d6_ k hk' k (by simp [hk]) rfl)); clear O11; have O11 := O11x; clear O11x
      have O13x := Lib.hid (Ty.own_turns (Ty.own_turns O13.out ((Turns.refl [g] _).setCell (.inl (by simp)) _) (fun k hk hk' => by simp at hk'; subst hk'; exact gn8 hk)) T7 (fun k hk hk' => d6_ k hk' k (by simp [hk]) rfl)); clear O13; have O13 := O13x; clear O13x
      have O14x := Lib.hid (Ty.own_turns (Ty.own_turns O14.out ((Turns.refl [g] _).setCell (.inl (by simp)) _) (fun k hk hk' => by simp at hk'; subst hk'; exact gn9 hk)) T7 (fun k hk hk' => d6_ k hk' k (by simp [hk]) rfl)); clear O14; have O14 := O14x; clear O14x
      have O16x := Lib.hid (Ty.own_turns (Ty.own_turns O16.out ((Turns.refl [g] _).setCell (.inl (by simp)) _) (fun k hk hk' => by simp at hk'; subst hk'; exact gn10 hk)) T7 (fun k hk hk' => d6_ k hk' k (by simp [hk]) rfl)); clear O16; have O16 := O16x; clear O16x
      have O17x := Lib.hid (Ty.own_turns (Ty.own_turns O17.out ((Turns.refl [g] _).setCell (.inl (by simp)) _) (fun k hk hk' => by simp at hk'; subst hk'; exact gn11 hk)) T7 (fun k hk hk' => d6_ k hk' k (by simp [hk]) rfl)); clear O17; have O17 := O17x; clear O17x
      have FO7 := Lib.hid ((FO6.out.setN (j := 9) (o := k * 18 + 9) (by decide) rfl (.bool ((q + ((s : Nat) : Int) + 1 + ((cIntS x.1.1.2 : Nat) : Int) + ((cIntS x.1.2 : Nat) : Int) + 1 + ((cIntS x.2.1.1.2 : Nat) : Int) + ((cIntS x.2.1.2 : Nat) : Int) + 1 + ((cIntS x.2.2.1.1.2 : Nat) : Int) + ((cIntS x.2.2.1.2 : Nat) : Int)) % 3 == 0))).turn T7 (fun k hk => by simp [hk]))
      have TR7 := Lib.hid ((TR6.out.setCell (.inl hgm) _).trans (T7.mono (fun k hk => FOh.out.sub k (by simp [hk]))))
      have p7_11 : w7.cell? ⟨g, k * 18 + 11, none⟩ = some (.slice y3_z1 y3_n1 y3_y1) := FO7.out.cell (j := 11) rfl
      have u7_11 : w7.frozen? ⟨g, k * 18 + 11, none⟩ = false := FO7.out.free _
      have p7_12 : w7.cell? ⟨g, k * 18 + 12, none⟩ = some (.bool x.2.2.2.2.1.1.1) := FO7.out.cell (j := 12) rfl
      have u7_12 : w7.frozen? ⟨g, k * 18 + 12, none⟩ = false := FO7.out.free _
      have p7_13 : w7.cell? ⟨g, k * 18 + 13, none⟩ = some (.slice y4_0_z1 y4_0_n1 y4_0_y1) := FO7.out.cell (j := 13) rfl
      have u7_13 : w7.frozen? ⟨g, k * 18 + 13, none⟩ = false := FO7.out.free _
      have p7_14 : w7.cell? ⟨g, k * 18 + 14, none⟩ = some (.slice y4_z1 y4_n1 y4_y1) := FO7.out.cell (j := 14) rfl
      have u7_14 : w7.frozen? ⟨g, k * 18 + 14, none⟩ = false := FO7.out.free _
      have p7_15 : w7.cell? ⟨g, k * 18 + 15, none⟩ = some (.bool x.2.2.2.2.2.1.1) := FO7.out.cell (j := 15) rfl
      have u7_15 : w7.frozen? ⟨g, k * 18 + 15, none⟩ = false := FO7.out.free _
      have p7_16 : w7.cell? ⟨g, k * 18 + 16, none⟩ = some (.slice y5_0_z1 y5_0_n1 y5_0_y1) := FO7.out.cell (j := 16) rfl
      have u7_16 : w7.frozen? ⟨g, k * 18 + 16, none⟩ = false := FO7.out.free _
      have p7_17 : w7.cell? ⟨g, k * 18 + 17, none⟩ = some (.slice y5_z1 y5_n1 y5_y1) := FO7.out.cell (j := 17) rfl
      have u7_17 : w7.frozen? ⟨g, k * 18 + 17, none⟩ = false := FO7.out.free _
      go_wp2_with fail
      refine (laws_markIntS_ y3_d0 _ x.2.2.2.1.2 _ _ O11.out n7_ (by omega) (by omega) W11.out).mono ?_
      rintro e w8 ⟨rfl, T8, P11⟩
      have O1x := Lib.hid (Ty.own_turns O1.out T8 (fun k hk hk' => d0_ k hk k (by simp [hk']) rfl)); clear O1; have O1 := O1x; clear O1x
      have O2x := Lib.hid (Ty.own_turns O2.out T8 (fun k hk hk' => d1_ k hk k (by simp [hk']) rfl)); clear O2; have O2 := O2x; clear O2x
      have O4x := Lib.hid (Ty.own_turns O4.out T8 (fun k hk hk' => d2_ k hk k (by simp [hk']) rfl)); clear O4; have O4 := O4x; clear O4x
      have O5x := Lib.hid (Ty.own_turns O5.out T8 (fun k hk hk' => d3_ k hk k (by simp [hk']) rfl)); clear O5; have O5 := O5x; clear O5x
      have O7x := Lib.hid (Ty.own_turns O7.out T8 (fun k hk hk' => d4_ k hk k (by simp [hk']) rfl)); clear O7; have O7 := O7x; clear O7x
      have O8x := Lib.hid (Ty.own_turns O8.out T8 (fun k hk hk' => d5_ k hk k (by simp [hk']) rfl)); clear O8; have O8 := O8x; clear O8x
      have O10x := Lib.hid (Ty.own_turns O10.out T8 (fun k hk hk' => d6_ k hk k (by simp [hk']) rfl)); clear O10; have O10 := O10x; clear O10x
      have O11x := Lib.hid P11; clear P11 O11; have O11 := O11x; clear O11x
      have O13x := Lib.hid (Ty.own_turns O13.out T8 (fun k hk hk' => d7_ k hk' k (by simp [hk]) rfl)); clear O13; have O13 := O13x; clear O13x
      have O14x := Lib.hid (Ty.own_turns O14.out T8 (fun k hk hk' => d7_ k hk' k (by simp [hk]) rfl)); clear O14; have O14 := O14x; clear O14x
      have O16x := Lib.hid (Ty.own_turns O16.out T8 (fun k hk hk' => d7_ k hk' k (by simp [hk]) rfl)); clear O16; have O16 := O16x; clear O16x
      have O17x := Lib.hid (Ty.own_turns O17.out T8 (fun k hk hk' => d7_ k hk' k (by simp [hk]) rfl)); clear O17; have O17 := O17x; clear O17x
      have FO8 := Lib.hid (FO7.out.turn T8 (fun k hk => by simp [hk]))
      have TR8 := Lib.hid (TR7.out.trans (T8.mono (fun k hk => FOh.out.sub k (by simp [hk]))))
      have p8_12 : w8.cell? ⟨g, k * 18 + 12, none⟩ = some (.bool x.2.2.2.2.1.1.1) := FO8.out.cell (j := 12) rfl
      have u8_12 : w8.frozen? ⟨g, k * 18 + 12, none⟩ = false := FO8.out.free _
      have p8_13 : w8.cell? ⟨g, k * 18 + 13, none⟩ = some (.slice y4_0_z1 y4_0_n1 y4_0_y1) := FO8.out.cell (j := 13) rfl
      have u8_13 : w8.frozen? ⟨g, k * 18 + 13, none⟩ = false := FO8.out.free _
      have p8_14 : w8.cell? ⟨g, k * 18 + 14, none⟩ = some (.slice y4_z1 y4_n1 y4_y1) := FO8.out.cell (j := 14) rfl
      have u8_14 : w8.frozen? ⟨g, k * 18 + 14, none⟩ = false := FO8.out.free _
      have p8_15 : w8.cell? ⟨g, k * 18 + 15, none⟩ = some (.bool x.2.2.2.2.2.1.1) := FO8.out.cell (j := 15) rfl
      have u8_15 : w8.frozen? ⟨g, k * 18 + 15, none⟩ = false := FO8.out.free _
      have p8_16 : w8.cell? ⟨g, k * 18 + 16, none⟩ = some (.slice y5_0_z1 y5_0_n1 y5_0_y1) := FO8.out.cell (j := 16) rfl
      have u8_16 : w8.frozen? ⟨g, k * 18 + 16, none⟩ = false := FO8.out.free _
      have p8_17 : w8.cell? ⟨g, k * 18 + 17, none⟩ = some (.slice y5_z1 y5_n1 y5_y1) := FO8.out.cell (j := 17) rfl
      have u8_17 : w8.frozen? ⟨g, k * 18 + 17, none⟩ = false := FO8.out.free _
      go_wp2_with fail
      refine (laws_markIntS_ y4_0_d0 _ x.2.2.2.2.1.1.2 _ _ (Ty.own_turns O13.out ((Turns.refl [g] _).setCell (.inl (by simp)) _) (fun k hk hk' => by simp at hk'; subst hk'; exact gn8 hk)) n8_ (by omega) (by omega) W13.out).mono ?_
      rintro e w9 ⟨rfl, T9, P13⟩
      have O1x := Lib.hid (Ty.own_turns (Ty.own_turns O1.out ((Turns.refl [g] _).setCell (.inl (by simp)) _) (fun k hk hk' => by simp at hk'; subst hk'; exact gn0 hk)) T9 (fun k hk hk' => d0_ k hk k (by simp [hk']) rfl)); clear O1; have O1 := O1x; clear O1x
      have O2x := Lib.hid (Ty.own_turns (Ty.own_turns O2.out ((Turns.refl [g] _).setCell (.inl (by simp)) _) (fun k hk hk' => by simp at hk'; subst hk'; exact gn1 hk)) T9 (fun k hk hk' => d1_ k hk k (by simp [hk']) rfl)); clear O2; have O2 := O2x; clear O2x
      have O4x := Lib.hid (Ty.own_turns (Ty.own_turns O4.out ((Turns.refl [g] _).setCell (.inl (by simp)) _) (fun k hk hk' => by simp at hk'; subst hk'; exact gn2 hk)) T9 (fun k hk hk' => d2_ k hk k (by simp [hk']) rfl)); clear O4; have O4 := O4x; clear O4x
      have O5x := Lib.hid (Ty.own_turns (Ty.own_turns O5.out ((Turns.refl [g] _).setCell (.inl (by simp)) _) (fun k hk hk' => by simp at hk'; subst hk'; exact gn3 hk)) T9 (fun k hk hk' => d3_ k hk k (by simp [hk']) rfl)); clear O5; have O5 := O5x; clear O5x
      have O7x := Lib.hid (Ty.own_turns (Ty.own_turns O7.out ((Turns.refl [g] _).setCell (.inl (by simp)) _) (fun k hk hk' => by simp at hk'; subst hk'; exact gn4 hk)) T9 (fun k hk hk' => d4_ k hk k (by simp [hk']) rfl)); clear O7; have O7 := O7x; clear O7x
      have O8x := Lib.hid (Ty.own_turns (Ty.own_turns O8.out ((Turns.refl [g] _).setCell (.inl (by simp)) _) (fun k hk hk' => by simp at hk'; subst hk'; exact gn5 hk)) T9 (fun k hk hk' => d5_ k hk k (by simp [hk']) rfl)); clear O8; have O8 := O8x; clear O8x
      have O10x := Lib.hid (Ty.own_turns (Ty.own_turns O10.out ((Turns.refl [g] _).setCell (.inl (by simp)) _) (fun k hk hk' => by simp at hk'; subst hk'; exact gn6 hk)) T9 (fun k hk hk' => d6_ k hk k (by simp [hk']) rfl)); clear O10; have O10 := O10x; clear O10x
      have O11x := Lib.hid (Ty.own_turns (Ty.own_turns O11.out ((Turns.refl [g] _).setCell (.inl (by simp)) _) (fun k hk hk' => by simp at hk'; subst hk'; exact gn7 hk)) T9 (fun k hk hk' => d7_ k hk k (by simp [hk']) rfl)); clear O11; have O11 := O11x; clear O11x
      have O13x := Lib.hid P13; clear P13 O13; have O13 := O13x; clear O13x
      have O14x := Lib.hid (Ty.own_turns (Ty.own_turns O14.out ((Turns.refl [g] _).setCell (.inl (by simp)) _) (fun k hk hk' => by simp at hk'; subst hk'; exact gn9 hk)) T9 (fun k hk hk' => d8_ k hk' k (by simp [hk]) rfl)); clear O14; have O14 := O14x; clear O14x
      have O16x := Lib.hid (Ty.own_turns (Ty.own_turns O16.out ((Turns.refl [g] _).setCell (.inl (by simp)) _) (fun k hk hk' => by simp at hk'; subst hk'; exact gn10 hk)) T9 (fun k hk hk' => d8_ k hk' k (by simp [hk]) rfl)); clear O16; have O16 := O16x; clear O16x
      have O17x := Lib.hid (Ty.own_turns (Ty.own_turns O17.out ((Turns.refl [g] _).setCell (.inl (by simp)) _) (fun k hk hk' => by simp at hk'; subst hk'; exact gn11 hk)) T9 (fun k hk hk' => d8_ k hk' k (by simp [hk]) rfl)); clear O17; have O17 := O17x; clear O17x
      have FO9 := Lib.hid ((FO8.out.setN (j := 12) (o := k * 18 + 12) (by decide) rfl (.bool ((q + ((s : Nat) : Int) + 1 + ((cIntS x.1.1.2 : Nat) : Int) + ((cIntS x.1.2 : Nat) : Int) + 1 + ((cIntS x.2.1.1.2 : Nat) : Int) + ((cIntS x.2.1.2 : Nat) : Int) + 1 + ((cIntS x.2.2.1.1.2 : Nat) : Int) + ((cIntS x.2.2.1.2 : Nat) : Int) + 1 + ((cIntS x.2.2.2.1.1.2 : Nat) : Int) + ((cIntS x.2.2.2.1.2 : Nat) : Int)) % 3 == 0))).turn T9 (fun k hk => by simp [hk]))
      have TR9 := Lib.hid ((TR8.out.setCell (.inl hgm) _).trans (T9.mono (fun k hk => FOh.out.sub k (by simp [hk]))))
      have p9_14 : w9.cell? ⟨g, k * 18 + 14, none⟩ = some (.slice y4_z1 y4_n1 y4_y1) := FO9.out.cell (j := 14) rfl
      have u9_14 : w9.frozen? ⟨g, k * 18 + 14, none⟩ = false := FO9.out.free _
      have p9_15 : w9.cell? ⟨g, k * 18 + 15, none⟩ = some (.bool x.2.2.2.2.2.1.1) := FO9.out.cell (j := 15) rfl
      have u9_15 : w9.frozen? ⟨g, k * 18 + 15, none⟩ = false := FO9.out.free _
      have p9_16 : w9.cell? ⟨g, k * 18 + 16, none⟩ = some (.slice y5_0_z1 y5_0_n1 y5_0_y1) := FO9.out.cell (j := 16) rfl
      have u9_16 : w9.frozen? ⟨g, k * 18 + 16, none⟩ = false := FO9.out.free _
      have p9_17 : w9.cell? ⟨g, k * 18 + 17, none⟩ = some (.slice y5_z1 y5_n1 y5_y1) := FO9.out.cell (j := 17) rfl
      have u9_17 : w9.frozen? ⟨g, k * 18 + 17, none⟩ = false := FO9.out.free _
      go_wp2_with fail
      refine (laws_markIntS_ y4_d0 _ x.2.2.2.2.1.2 _ _ O14.out n9_ (by omega) (by omega) W14.out).mono ?_
      rintro e w10 ⟨rfl, T10, P14⟩
      have O1x := Lib.hid (Ty.own_turns O1.out T10 (fun k hk hk' => d0_ k hk k (by simp [hk']) rfl)); clear O1; have O1 := O1x; clear O1x
      have O2x := Lib.hid (Ty.own_turns O2.out T10 (fun k hk hk' => d1_ k hk k (by simp [hk']) rfl)); clear O2; have O2 := O2x; clear O2x
      have O4x := Lib.hid (Ty.own_turns O4.out T10 (fun k hk hk' => d2_ k hk k (by simp [hk']) rfl)); clear O4; have O4 := O4x; clear O4x
      have O5x := Lib.hid (Ty.own_turns O5.out T10 (fun k hk hk' => d3_ k hk k (by simp [hk']) rfl)); clear O5; have O5 := O5x; clear O5x
      have O7x := Lib.hid (Ty.own_turns O7.out T10 (fun k hk hk' => d4_ k hk k (by simp [hk']) rfl)); clear O7; have O7 := O7x; clear O7x
      have O8x := Lib.hid (Ty.own_turns O8.out T10 (fun k hk hk' => d5_ k hk k (by simp [hk']) rfl)); clear O8; have O8 := O8x; clear O8x
      have O10x := Lib.hid (Ty.own_turns O10.out T10 (fun k hk hk' => d6_ k hk k (by simp [hk']) rfl)); clear O10; have O10 := O10x; clear O10x
      have O11x := Lib.hid (Ty.own_turns O11.out T10 (fun k hk hk' => d7_ k hk k (by simp [hk']) rfl)); clear O11; have O11 := O11x; clear O11x
      have O13x := Lib.hid (Ty.own_turns O13.out T10 (fun k hk hk' => d8_ k hk k (by simp [hk']) rfl)); clear O13; have O13 := O13x; clear O13x
      have O14x := Lib.hid P14; clear P14 O14; have O14 := O14x; clear O14x
      have O16x := Lib.hid (Ty.own_turns O16.out T10 (fun k hk hk' => d9_ k hk' k (by simp [hk]) rfl)); clear O16; have O16 := O16x; clear O16x
      have O17x := Lib.hid (Ty.own_turns O17.out T10 (fun k hk hk' => d9_ k hk' k (by simp [hk]) rfl)); clear O17; have O17 := O17x; clear O17x
      have FO10 := Lib.hid (FO9.out.turn T10 (fun k hk => by simp [hk]))
      have TR10 := Lib.hid (TR9.out.trans (T10.mono (fun k hk => FOh.out.sub k (by simp [hk]))))
      have p10_15 : w10.cell? ⟨g, k * 18 + 15, none⟩ = some (.bool x.2.2.2.2.2.1.1) := FO10.out.cell (j := 15) rfl
      have u10_15 : w10.frozen? ⟨g, k * 18 + 15, none⟩ = false := FO10.out.free _
      have p10_16 : w10.cell? ⟨g, k * 18 + 16, none⟩ = some (.slice y5_0_z1 y5_0_n1 y5_0_y1) := FO10.out.cell (j := 16) rfl
      have u10_16 : w10.frozen? ⟨g, k * 18 + 16, none⟩ = false := FO10.out.free _
      have p10_17 : w10.cell? ⟨g, k * 18 + 17, none⟩ = some (.slice y5_z1 y5_n1 y5_y1) := FO10.out.cell (j := 17) rfl
      have u10_17 : w10.frozen? ⟨g, k * 18 + 17, none⟩ = false := FO10.out.free _
      go_wp2_with fail
      refine (laws_markIntS_ y5_0_d0 _ x.2.2.2.2.2.1.2 _ _ (Ty.own_turns O16.out ((Turns.refl [g] _).setCell (.inl (by simp)) _) (fun k hk hk' => by simp at hk'; subst hk'; exact gn10 hk)) n10_ (by omega) (by omega) W16.out).mono ?_
      rintro e w11 ⟨rfl, T11, P16⟩
      have O1x := Lib.hid (Ty.own_turns (Ty.own_turns O1.out ((Turns.refl [g] _).setCell (.inl (by simp)) _) (fun k hk hk' => by simp at hk'; subst hk'; exact gn0 hk)) T11 (fun k hk hk' => d0_ k hk k (by simp [hk']) rfl)); clear O1; have O1 := O1x; clear O1x
      have O2x := Lib.hid (Ty.own_turns (Ty.own_turns O2.out ((Turns.refl [g] _).setCell (.inl (by simp)) _) (fun k hk hk' => by simp at hk'; subst hk'; exact gn1 hk)) T11 (fun k hk hk' => d1_ k hk k (by simp [hk']) rfl)); clear O2; have O2 := O2x; clear O2x
      have O4x := Lib.hid (Ty.own_turns (Ty.own_turns O4.out ((Turns.refl [g] _).setCell (.inl (by simp)) _) (fun k hk hk' => by simp at hk'; subst hk'; exact gn2 hk)) T11 (fun k hk hk' => d2_ k hk k (by simp [hk']) rfl)); clear O4; have O4 := O4x; clear O4x
      have O5x := Lib.hid (Ty.own_turns (Ty.own_turns O5.out ((Turns.refl [g] _).setCell (.inl (by simp)) _) (fun k hk hk' => by simp at hk'; subst hk'; exact gn3 hk)) T11 (fun k hk hk' => d3_ k hk k (by simp [hk']) rfl)); clear O5; have O5 := O5x; clear O5x
      have O7x := Lib.hid (Ty.own_turns (Ty.own_turns O7.out ((Turns.refl [g] _).setCell (.inl (by simp)) _) (fun k hk hk' => by simp at hk'; subst hk'; exact gn4 hk)) T11 (fun k hk hk' => d4_ k hk k (by simp [hk']) rfl)); clear O7; have O7 := O7x; clear O7x
      have O8x := Lib.hid (Ty.own_turns (Ty.own_turns O8.out ((Turns.refl [g] _).setCell (.inl (by simp)) _) (fun k hk hk' => by simp at hk'; subst hk'; exact gn5 hk)) T11 (fun k hk hk' => d5_ k hk k (by simp [hk']) rfl)); clear O8; have O8 := O8x; clear O8x
      have O10x := Lib.hid (Ty.own_turns (Ty.own_turns O10.out ((Turns.refl [g] _).setCell (.inl (by simp)) _) (fun k hk hk' => by simp at hk'; subst hk'; exact gn6 hk)) T11 (fun k hk hk' => d6_ k hk k (by simp [hk']) rfl)); clear O10; have O10 := O10x; clear O10x
      have O11x := Lib.hid (Ty.own_turns (Ty.own_turns O11.out ((Turns.refl [g] _).setCell (.inl (by simp)) _) (fun k hk hk' => by simp at hk'; subst hk'; exact gn7 hk)) T11 (fun k hk hk' => d7_ k hk k (by simp [hk']) rfl)); clear O11; have O11 := O11x; clear O11x
      have O13x := Lib.hid (Ty.own_turns (Ty.own_turns O13.out ((Turns.refl [g] _).setCell (.inl (by simp)) _) (fun k hk hk' => by simp at hk'; subst hk'; exact gn8 hk)) T11 (fun k hk hk' => d8_ k hk k (by simp [hk']) rfl)); clear O13; have O13 := O13x; clear O13x
      have O14x := Lib.hid (Ty.own_turns (Ty.own_turns O14.out ((Turns.refl [g] _).setCell (.inl (by simp)) _) (fun k hk hk' => by simp at hk'; subst hk'; exact gn9 hk)) T11 (fun k hk hk' => d9_ k hk k (by simp [hk']) rfl)); clear O14; have O14 := O14x; clear O14x
      have O16x := Lib.hid P16; clear P16 O16; have O16 := O16x; clear O16x
      have O17x := Lib.hid (Ty.own_turns (Ty.own_turns O17.out ((Turns.refl [g] _).setCell (.inl (by simp)) _) (fun k hk hk' => by simp at hk'; subst hk'; exact gn11 hk)) T11 (fun k hk hk' => d10_ k hk' k (by simp [hk]) rfl)); clear O17; have O17 := O17x; clear O17x
      have FO11 := Lib.hid ((FO10.out.setN (j := 15) (o := k * 18 + 15) (by decide) rfl (.bool ((q + ((s : Nat) : Int) + 1 + ((cIntS x.1.1.2 : Nat) : Int) + ((cIntS x.1.2 : Nat) : Int) + 1 + ((cIntS x.2.1.1.2 : Nat) : Int) + ((cIntS x.2.1.2 : Nat) : Int) + 1 + ((cIntS x.2.2.1.1.2 : Nat) : Int) + ((cIntS x.2.2.1.2 : Nat) : Int) + 1 + ((cIntS x.2.2.2.1.1.2 : Nat) : Int) + ((cIntS x.2.2.2.1.2 : Nat) : Int) + 1 + ((cIntS x.2.2.2.2.1.1.2 : Nat) : Int) + ((cIntS x.2.2.2.2.1.2 : Nat) : Int)) % 3 == 0))).turn T11 (fun k hk => by simp [hk]))
      have TR11 := Lib.hid ((TR10.out.setCell (.inl hgm) _).trans (T11.mono (fun k hk => FOh.out.sub k (by simp [hk]))))
      have p11_17 : w11.cell? ⟨g, k * 18 + 17, none⟩ = some (.slice y5_z1 y5_n1 y5_y1) := FO11.out.cell (j := 17) rfl
      have u11_17 : w11.frozen? ⟨g, k * 18 + 17, none⟩ = false := FO11.out.free _
      go_wp2_with fail
      refine (laws_markIntS_ y5_d0 _ x.2.2.2.2.2.2 _ _ O17.out n11_ (by omega) (by omega) W17.out).mono ?_
      rintro e w12 ⟨rfl, T12, P17⟩
      have O1x := Lib.hid (Ty.own_turns O1.out T12 (fun k hk hk' => d0_ k hk k (by simp [hk']) rfl)); clear O1; have O1 := O1x; clear O1x
      have O2x := Lib.hid (Ty.own_turns O2.out T12 (fun k hk hk' => d1_ k hk k (by simp [hk']) rfl)); clear O2; have O2 := O2x; clear O2x
      have O4x := Lib.hid (Ty.own_turns O4.out T12 (fun k hk hk' => d2_ k hk k (by simp [hk']) rfl)); clear O4; have O4 := O4x; clear O4x
      have O5x := Lib.hid (Ty.own_turns O5.out T12 (fun k hk hk' => d3_ k hk k (by simp [hk']) rfl)); clear O5; have O5 := O5x; clear O5x
      have O7x := Lib.hid (Ty.own_turns O7.out T12 (fun k hk hk' => d4_ k hk k (by simp [hk']) rfl)); clear O7; have O7 := O7x; clear O7x
      have O8x := Lib.hid (Ty.own_turns O8.out T12 (fun k hk hk' => d5_ k hk k (by simp [hk']) rfl)); clear O8; have O8 := O8x; clear O8x
      have O10x := Lib.hid (Ty.own_turns O10.out T12 (fun k hk hk' => d6_ k hk k (by simp [hk']) rfl)); clear O10; have O10 := O10x; clear O10x
      have O11x := Lib.hid (Ty.own_turns O11.out T12 (fun k hk hk' => d7_ k hk k (by simp [hk']) rfl)); clear O11; have O11 := O11x; clear O11x
      have O13x := Lib.hid (Ty.own_turns O13.out T12 (fun k hk hk' => d8_ k hk k (by simp [hk']) rfl)); clear O13; have O13 := O13x; clear O13x
      have O14x := Lib.hid (Ty.own_turns O14.out T12 (fun k hk hk' => d9_ k hk k (by simp [hk']) rfl)); clear O14; have O14 := O14x; clear O14x
      have O16x := Lib.hid (Ty.own_turns O16.out T12 (fun k hk hk' => d10_ k hk k (by simp [hk']) rfl)); clear O16; have O16 := O16x; clear O16x
      have O17x := Lib.hid P17; clear P17 O17; have O17 := O17x; clear O17x
      have FO12 := Lib.hid (FO11.out.turn T12 (fun k hk => by simp [hk]))
      have TR12 := Lib.hid (TR11.out.trans (T12.mono (fun k hk => FOh.out.sub k (by simp [hk]))))
      go_wp2_with fail
      go_roundw
      case rel => exact ⟨k + 1, s + ceCell x, by omega, by go_num, by congr 1; rw [hce]; omega, by omega, Lib.hid (by rw [wsum_next HX.out, HS.out]), Lib.hid TR12.out, Lib.hid (by rw [← mix_set meCell ceCell q HX.out, (show meCell x (q + ((wsum ceCell (l.take k) : Nat) : Int)) = (((((q + ((s : Nat) : Int)) % 3 == 0), mkIntS x.1.1.2 (q + ((s : Nat) : Int) + 1)), mkIntS x.1.2 (q + ((s : Nat) : Int) + 1 + ((cIntS x.1.1.2 : Nat) : Int))), ((((q + ((s : Nat) : Int) + 1 + ((cIntS x.1.1.2 : Nat) : Int) + ((cIntS x.1.2 : Nat) : Int)) % 3 == 0), mkIntS x.2.1.1.2 (q + ((s : Nat) : Int) + 1 + ((cIntS x.1.1.2 : Nat) : Int) + ((cIntS x.1.2 : Nat) : Int) + 1)), mkIntS x.2.1.2 (q + ((s : Nat) : Int) + 1 + ((cIntS x.1.1.2 : Nat) : Int) + ((cIntS x.1.2 : Nat) : Int) + 1 + ((cIntS x.2.1.1.2 : Nat) : Int))), ((((q + ((s : Nat) : Int) + 1 + ((cIntS x.1.1.2 : Nat) : Int) + ((cIntS x.1.2 : Nat) : Int) + 1 + ((cIntS x.2.1.1.2 : Nat) : Int) + ((cIntS x.2.1.2 : Nat) : Int)) % 3 == 0), mkIntS x.2.2.1.1.2 (q + ((s : Nat) : Int) + 1 + ((cIntS x.1.1.2 : Nat) : Int) + ((cIntS x.1.2 : Nat) : Int) + 1 + ((cIntS x.2.1.1.2 : Nat) : Int) + ((cIntS x.2.1.2 : Nat) : Int) + 1)), mkIntS x.2.2.1.2 (q + ((s : Nat) : Int) + 1 + ((cIntS x.1.1.2 : Nat) : Int) + ((cIntS x.1.2 : Nat) : Int) + 1 + ((cIntS x.2.1.1.2 : Nat) : Int) + ((cIntS x.2.1.2 : Nat) : Int) + 1 + ((cIntS x.2.2.1.1.2 : Nat) : Int))), ((((q + ((s : Nat) : Int) + 1 + ((cIntS x.1.1.2 : Nat) : Int) + ((cIntS x.1.2 : Nat) : Int) + 1 + ((cIntS x.2.1.1.2 : Nat) : Int) + ((cIntS x.2.1.2 : Nat) : Int) + 1 + ((cIntS x.2.2.1.1.2 : Nat) : Int) + ((cIntS x.2.2.1.2 : Nat) : Int)) % 3 == 0), mkIntS x.2.2.2.1.1.2 (q + ((s : Nat) : Int) + 1 + ((cIntS x.1.1.2 : Nat) : Int) + ((cIntS x.1.2 : Nat) : Int) + 1 + ((cIntS x.2.1.1.2 : Nat) : Int) + ((cIntS x.2.1.2 : Nat) : Int) + 1 + ((cIntS x.2.2.1.1.2 : Nat) : Int) + ((cIntS x.2.2.1.2 : Nat) : Int) + 1)), mkIntS x.2.2.2.1.2 (q + ((s : Nat) : Int) + 1 + ((cIntS x.1.1.2 : Nat) : Int) + ((cIntS x.1.2 : Nat) : Int) + 1 + ((cIntS x.2.1.1.2 : Nat) : Int) + ((cIntS x.2.1.2 : Nat) : Int) + 1 + ((cIntS x.2.2.1.1.2 : Nat) : Int) + ((cIntS x.2.2.1.2 : Nat) : Int) + 1 + ((cIntS x.2.2.2.1.1.2 : Nat) : Int))), ((((q + ((s : Nat) : Int) + 1 + ((cIntS x.1.1.2 : Nat) : Int) + ((cIntS x.1.2 : Nat) : Int) + 1 + ((cIntS x.2.1.1.2 : Nat) : Int) + ((cIntS x.2.1.2 : Nat) : Int) + 1 + ((cIntS x.2.2.1.1.2 : Nat) : Int) + ((cIntS x.2.2.1.2 : Nat) : Int) + 1 + ((cIntS x.2.2.2.1.1.2 : Nat) : Int) + ((cIntS x.2.2.2.1.2 : Nat) : Int)) % 3 == 0), mkIntS x.2.2.2.2.1.1.2 (q + ((s : Nat) : Int) + 1 + ((cIntS x.1.1.2 : Nat) : Int) + ((cIntS x.1.2 : Nat) : Int) + 1 + ((cIntS x.2.1.1.2 : Nat) : Int) + ((cIntS x.2.1.2 : Nat) : Int) + 1 + ((cIntS x.2.2.1.1.2 : Nat) : Int) + ((cIntS x.2.2.1.2 : Nat) : Int) + 1 + ((cIntS x.2.2.2.1.1.2 : Nat) : Int) + ((cIntS x.2.2.2.1.2 : Nat) : Int) + 1)), mkIntS x.2.2.2.2.1.2 (q + ((s : Nat) : Int) + 1 + ((cIntS x.1.1.2 : Nat) : Int) + ((cIntS x.1.2 : Nat) : Int) + 1 + ((cIntS x.2.1.1.2 : Nat) : Int) + ((cIntS x.2.1.2 : Nat) : Int) + 1 + ((cIntS x.2.2.1.1.2 : Nat) : Int) + ((cIntS x.2.2.1.2 : Nat) : Int) + 1 + ((cIntS x.2.2.2.1.1.2 : Nat) : Int) + ((cIntS x.2.2.2.1.2 : Nat) : Int) + 1 + ((cIntS x.2.2.2.2.1.1.2 : Nat) : Int))), ((((q + ((s : Nat) : Int) + 1 + ((cIntS x.1.1.2 : Nat) : Int) + ((cIntS x.1.2 : Nat) : Int) + 1 + ((cIntS x.2.1.1.2 : Nat) : Int) + ((cIntS x.2.1.2 : Nat) : Int) + 1 + ((cIntS x.2.2.1.1.2 : Nat) : Int) + ((cIntS x.2.2.1.2 : Nat) : Int) + 1 + ((cIntS x.2.2.2.1.1.2 : Nat) : Int) + ((cIntS x.2.2.2.1.2 : Nat) : Int) + 1 + ((cIntS x.2.2.2.2.1.1.2 : Nat) : Int) + ((cIntS x.2.2.2.2.1.2 : Nat) : Int)) % 3 == 0), mkIntS x.2.2.2.2.2.1.2 (q + ((s : Nat) : Int) + 1 + ((cIntS x.1.1.2 : Nat) : Int) + ((cIntS x.1.2 : Nat) : Int) + 1 + ((cIntS x.2.1.1.2 : Nat) : Int) + ((cIntS x.2.1.2 : Nat) : Int) + 1 + ((cIntS x.2.2.1.1.2 : Nat) : Int) + ((cIntS x.2.2.1.2 : Nat) : Int) + 1 + ((cIntS x.2.2.2.1.1.2 : Nat) : Int) + ((cIntS x.2.2.2.1.2 : Nat) : Int) + 1 + ((cIntS x.2.2.2.2.1.1.2 : Nat) : Int) + ((cIntS x.2.2.2.2.1.2 : Nat) : Int) + 1)), mkIntS x.2.2.2.2.2.2 (q + ((s : Nat) : Int) + 1 + ((cIntS x.1.1.2 : Nat) : Int) + ((cIntS x.1.2 : Nat) : Int) + 1 + ((cIntS x.2.1.1.2 : Nat) : Int) + ((cIntS x.2.1.2 : Nat) : Int) + 1 + ((cIntS x.2.2.1.1.2 : Nat) : Int) + ((cIntS x.2.2.1.2 : Nat) : Int) + 1 + ((cIntS x.2.2.2.1.1.2 : Nat) : Int) + ((cIntS x.2.2.2.1.2 : Nat) : Int) + 1 + ((cIntS x.2.2.2.2.1.1.2 : Nat) : Int) + ((cIntS x.2.2.2.2.1.2 : Nat) : Int) + 1 + ((cIntS x.2.2.2.2.2.1.2 : Nat) : Int)))) by rw [← HS.out]; unfold meCell; simp only [Int.natCast_add, Int.add_assoc, Int.natCast_one])]; exact Foc.close FO12.out ⟨(([] ++ y0_0_d0) ++ y0_d0), ((([] ++ y1_0_d0) ++ y1_d0) ++ ((([] ++ y2_0_d0) ++ y2_d0) ++ ((([] ++ y3_0_d0) ++ y3_d0) ++ ((([] ++ y4_0_d0) ++ y4_d0) ++ (([] ++ y5_0_d0) ++ y5_d0))))), [.bool ((q + ((s : Nat) : Int)) % 3 == 0), .slice y0_0_z1 y0_0_n1 y0_0_y1, .slice y0_z1 y0_n1 y0_y1], [.bool ((q + ((s : Nat) : Int) + 1 + ((cIntS x.1.1.2 : Nat) : Int) + ((cIntS x.1.2 : Nat) : Int)) % 3 == 0), .slice y1_0_z1 y1_0_n1 y1_0_y1, .slice y1_z1 y1_n1 y1_y1, .bool ((q + ((s : Nat) : Int) + 1 + ((cIntS x.1.1.2 : Nat) : Int) + ((cIntS x.1.2 : Nat) : Int) + 1 + ((cIntS x.2.1.1.2 : Nat) : Int) + ((cIntS x.2.1.2 : Nat) : Int)) % 3 == 0), .slice y2_0_z1 y2_0_n1 y2_0_y1, .slice y2_z1 y2_n1 y2_y1, .bool ((q + ((s : Nat) : Int) + 1 + ((cIntS x.1.1.2 : Nat) : Int) + ((cIntS x.1.2 : Nat) : Int) + 1 + ((cIntS x.2.1.1.2 : Nat) : Int) + ((cIntS x.2.1.2 : Nat) : Int) + 1 + ((cIntS x.2.2.1.1.2 : Nat) : Int) + ((cIntS x.2.2.1.2 : Nat) : Int)) % 3 == 0), .slice y3_0_z1 y3_0_n1 y3_0_y1, .slice y3_z1 y3_n1 y3_y1, .bool ((q + ((s : Nat) : Int) + 1 + ((cIntS x.1.1.2 : Nat) : Int) + ((cIntS x.1.2 : Nat) : Int) + 1 + ((cIntS x.2.1.1.2 : Nat) : Int) + ((cIntS x.2.1.2 : Nat) : Int) + 1 + ((cIntS x.2.2.1.1.2 : Nat) : Int) + ((cIntS x.2.2.1.2 : Nat) : Int) + 1 + ((cIntS x.2.2.2.1.1.2 : Nat) : Int) + ((cIntS x.2.2.2.1.2 : Nat) : Int)) % 3 == 0), .slice y4_0_z1 y4_0_n1 y4_0_y1, .slice y4_z1 y4_n1 y4_y1, .bool ((q + ((s : Nat) : Int) + 1 + ((cIntS x.1.1.2 : Nat) : Int) + ((cIntS x.1.2 : Nat) : Int) + 1 + ((cIntS x.2.1.1.2 : Nat) : Int) + ((cIntS x.2.1.2 : Nat) : Int) + 1 + ((cIntS x.2.2.1.1.2 : Nat) : Int) + ((cIntS x.2.2.1.2 : Nat) : Int) + 1 + ((cIntS x.2.2.2.1.1.2 : Nat) : Int) + ((cIntS x.2.2.2.1.2 : Nat) : Int) + 1 + ((cIntS x.2.2.2.2.1.1.2 : Nat) : Int) + ((cIntS x.2.2.2.2.1.2 : Nat) : Int)) % 3 == 0), .slice y5_0_z1 y5_0_n1 y5_0_y1, .slice y5_z1 y5_n1 y5_y1], rfl, rfl, ⟨([] ++ y0_0_d0), y0_d0, [.bool ((q + ((s : Nat) : Int)) % 3 == 0), .slice y0_0_z1 y0_0_n1 y0_0_y1], [.slice y0_z1 y0_n1 y0_y1], rfl, rfl, ⟨[], y0_0_d0, [.bool ((q + ((s : Nat) : Int)) % 3 == 0)], [.slice y0_0_z1 y0_0_n1 y0_0_y1], rfl, rfl, ⟨rfl, rfl⟩, (mk_eq O1.out (by first | rfl | simp only [Int.natCast_add, Int.add_assoc]))⟩, (mk_eq O2.out (by first | rfl | simp only [Int.natCast_add, Int.add_assoc]))⟩, ⟨(([] ++ y1_0_d0) ++ y1_d0), ((([] ++ y2_0_d0) ++ y2_d0) ++ ((([] ++ y3_0_d0) ++ y3_d0) ++ ((([] ++ y4_0_d0) ++ y4_d0) ++ (([] ++ y5_0_d0) ++ y5_d0)))), [.bool ((q + ((s : Nat) : Int) + 1 + ((cIntS x.1.1.2 : Nat) : Int) + ((cIntS x.1.2 : Nat) : Int)) % 3 == 0), .slice y1_0_z1 y1_0_n1 y1_0_y1, .slice y1_z1 y1_n1 y1_y1], [.bool ((q + ((s : Nat) : Int) + 1 + ((cIntS x.1.1.2 : Nat) : Int) + ((cIntS x.1.2 : Nat) : Int) + 1 + ((cIntS x.2.1.1.2 : Nat) : Int) + ((cIntS x.2.1.2 : Nat) : Int)) % 3 == 0), .slice y2_0_z1 y2_0_n1 y2_0_y1, .slice y2_z1 y2_n1 y2_y1, .bool ((q + ((s : Nat) : Int) + 1 + ((cIntS x.1.1.2 : Nat) : Int) + ((cIntS x.1.2 : Nat) : Int) + 1 + ((cIntS x.2.1.1.2 : Nat) : Int) + ((cIntS x.2.1.2 : Nat) : Int) + 1 + ((cIntS x.2.2.1.1.2 : Nat) : Int) + ((cIntS x.2.2.1.2 : Nat) : Int)) % 3 == 0), .slice y3_0_z1 y3_0_n1 y3_0_y1, .slice y3_z1 y3_n1 y3_y1, .bool ((q + ((s : Nat) : Int) + 1 + ((cIntS x.1.1.2 : Nat) : Int) + ((cIntS x.1.2 : Nat) : Int) + 1 + ((cIntS x.2.1.1.2 : Nat) : Int) + ((cIntS x.2.1.2 : Nat) : Int) + 1 + ((cIntS x.2.2.1.1.2 : Nat) : Int) + ((cIntS x.2.2.1.2 : Nat) : Int) + 1 + ((cIntS x.2.2.2.1.1.2 : Nat) : Int) + ((cIntS x.2.2.2.1.2 : Nat) : Int)) % 3 == 0), .slice y4_0_z1 y4_0_n1 y4_0_y1, .slice y4_z1 y4_n1 y4_y1, .bool ((q + ((s : Nat) : Int) + 1 + ((cIntS x.1.1.2 : Nat) : Int) + ((cIntS x.1.2 : Nat) : Int) + 1 + ((cIntS x.2.1.1.2 : Nat) : Int) + ((cIntS x.2.1.2 : Nat) : Int) + 1 + ((cIntS x.2.2.1.1.2 : Nat) : Int) + ((cIntS x.2.2.1.2 : Nat) : Int) + 1 + ((cIntS x.2.2.2.1.1.2 : Nat) : Int) + ((cIntS x.2.2.2.1.2 : Nat) : Int) + 1 + ((cIntS x.2.2.2.2.1.1.2 : Nat) : Int) + ((cIntS x.2.2.2.2.1.2 : Nat) : Int)) % 3 == 0), .slice y5_0_z1 y5_0_n1 y5_0_y1, .slice y5_z1 y5_n1 y5_y1], rfl, rfl, ⟨([] ++ y1_0_d0), y1_d0, [.bool ((q + ((s : Nat) : Int) + 1 + ((cIntS x.1.1.2 : Nat) : Int) + ((cIntS x.1.2 : Nat) : Int)) % 3 == 0), .slice y1_0_z1 y1_0_n1 y1_0_y1], [.slice y1_z1 y1_n1 y1_y1], rfl, rfl, ⟨[], y1_0_d0, [.bool ((q + ((s : Nat) : Int) + 1 + ((cIntS x.1.1.2 : Nat) : Int) + ((cIntS x.1.2 : Nat) : Int)) % 3 == 0)], [.slice y1_0_z1 y1_0_n1 y1_0_y1], rfl, rfl, ⟨rfl, rfl⟩, (mk_eq O4.out (by first | rfl | simp only [Int.natCast_add, Int.add_assoc]))⟩, (mk_eq O5.out (by first | rfl | simp only [Int.natCast_add, Int.add_assoc]))⟩, ⟨(([] ++ y2_0_d0) ++ y2_d0), ((([] ++ y3_0_d0) ++ y3_d0) ++ ((([] ++ y4_0_d0) ++ y4_d0) ++ (([] ++ y5_0_d0) ++ y5_d0))), [.bool ((q + ((s : Nat) : Int) + 1 + ((cIntS x.1.1.2 : Nat) : Int) + ((cIntS x.1.2 : Nat) : Int) + 1 + ((cIntS x.2.1.1.2 : Nat) : Int) + ((cIntS x.2.1.2 : Nat) : Int)) % 3 == 0), .slice y2_0_z1 y2_0_n1 y2_0_y1, .slice y2_z1 y2_n1 y2_y1], [.bool ((q + ((s : Nat) : Int) + 1 + ((cIntS x.1.1.2 : Nat) : Int) + ((cIntS x.1.2 : Nat) : Int) + 1 + ((cIntS x.2.1.1.2 : Nat) : Int) + ((cIntS x.2.1.2 : Nat) : Int) + 1 + ((cIntS x.2.2.1.1.2 : Nat) : Int) + ((cIntS x.2.2.1.2 : Nat) : Int)) % 3 == 0), .slice y3_0_z1 y3_0_n1 y3_0_y1, .slice y3_z1 y3_n1 y3_y1, .bool ((q + ((s : Nat) : Int) + 1 + ((cIntS x.1.1.2 : Nat) : Int) + ((cIntS x.1.2 : Nat) : Int) + 1 + ((cIntS x.2.1.1.2 : Nat) : Int) + ((cIntS x.2.1.2 : Nat) : Int) + 1 + ((cIntS x.2.2.1.1.2 : Nat) : Int) + ((cIntS x.2.2.1.2 : Nat) : Int) + 1 + ((cIntS x.2.2.2.1.1.2 : Nat) : Int) + ((cIntS x.2.2.2.1.2 : Nat) : Int)) % 3 == 0), .slice y4_0_z1 y4_0_n1 y4_0_y1, .slice y4_z1 y4_n1 y4_y1, .bool ((q + ((s : Nat) : Int) + 1 + ((cIntS x.1.1.2 : Nat) : Int) + ((cIntS x.1.2 : Nat) : Int) + 1 + ((cIntS x.2.1.1.2 : Nat) : Int) + ((cIntS x.2.1.2 : Nat) : Int) + 1 + ((cIntS x.2.2.1.1.2 : Nat) : Int) + ((cIntS x.2.2.1.2 : Nat) : Int) + 1 + ((cIntS x.2.2.2.1.1.2 : Nat) : Int) + ((cIntS x.2.2.2.1.2 : Nat) : Int) + 1 + ((cIntS x.2.2.2.2.1.1.2 : Nat) : Int) + ((cIntS x.2.2.2.2.1.2 : Nat) : Int)) % 3 == 0), .slice y5_0_z1 y5_0_n1 y5_0_y1, .slice y5_z1 y5_n1 y5_y1], rfl, rfl, ⟨([] ++ y2_0_d0), y2_d0, [.bool ((q + ((s : Nat) : Int) + 1 + ((cIntS x.1.1.2 : Nat) : Int) + ((cIntS x.1.2 : Nat) : Int) + 1 + ((cIntS x.2.1.1.2 : Nat) : Int) + ((cIntS x.2.1.2 : Nat) : Int)) % 3 == 0), .slice y2_0_z1 y2_0_n1 y2_0_y1], [.slice y2_z1 y2_n1 y2_y1], rfl, rfl, ⟨[], y2_0_d0, [.bool ((q + ((s : Nat) : Int) + 1 + ((cIntS x.1.1.2 : Nat) : Int) + ((cIntS x.1.2 : Nat) : Int) + 1 + ((cIntS x.2.1.1.2 : Nat) : Int) + ((cIntS x.2.1.2 : Nat) : Int)) % 3 == 0)], [.slice y2_0_z1 y2_0_n1 y2_0_y1], rfl, rfl, ⟨rfl, rfl⟩, (mk_eq O7.out (by first | rfl | simp only [Int.natCast_add, Int.add_assoc]))⟩, (mk_eq O8.out (by first | rfl | simp only [Int.natCast_add, Int.add_assoc]))⟩, ⟨(([] ++ y3_0_d0) ++ y3_d0), ((([] ++ y4_0_d0) ++ y4_d0) ++ (([] ++ y5_0_d0) ++ y5_d0)), [.bool ((q + ((s : Nat) : Int) + 1 + ((cIntS x.1.1.2 : Nat) : Int) + ((cIntS x.1.2 : Nat) : Int) + 1 + ((cIntS x.2.1.1.2 : Nat) : Int) + ((cIntS x.2.1.2 : Nat) : Int) + 1 + ((cIntS x.2.2.1.1.2 : Nat) : Int) + ((cIntS x.2.2.1.2 : Nat) : Int)) % 3 == 0), .slice y3_0_z1 y3_0_n1 y3_0_y1, .slice y3_z1 y3_n1 y3_y1], [.bool ((q + ((s : Nat) : Int) + 1 + ((cIntS x.1.1.2 : Nat) : Int) + ((cIntS x.1.2 : Nat) : Int) + 1 + ((cIntS x.2.1.1.2 : Nat) : Int) + ((cIntS x.2.1.2 : Nat) : Int) + 1 + ((cIntS x.2.2.1.1.2 : Nat) : Int) + ((cIntS x.2.2.1.2 : Nat) : Int) + 1 + ((cIntS x.2.2.2.1.1.2 : Nat) : Int) + ((cIntS x.2.2.2.1.2 : Nat) : Int)) % 3 == 0), .slice y4_0_z1 y4_0_n1 y4_0_y1, .slice y4_z1 y4_n1 y4_y1, .bool ((q + ((s : Nat) : Int) + 1 + ((cIntS x.1.1.2 : Nat) : Int) + ((cIntS x.1.2 : Nat) : Int) + 1 + ((cIntS x.2.1.1.2 : Nat) : Int) + ((cIntS x.2.1.2 : Nat) : Int) + 1 + ((cIntS x.2.2.1.1.2 : Nat) : Int) + ((cIntS x.2.2.1.2 : Nat) : Int) + 1 + ((cIntS x.2.2.2.1.1.2 : Nat) : Int) + ((cIntS x.2.2.2.1.2 : Nat) : Int) + 1 + ((cIntS x.2.2.2.2.1.1.2 : Nat) : Int) + ((cIntS x.2.2.2.2.1.2 : Nat) : Int)) % 3 == 0), .slice y5_0_z1 y5_0_n1 y5_0_y1, .slice y5_z1 y5_n1 y5_y1], rfl, rfl, ⟨([] ++ y3_0_d0), y3_d0, [.bool ((q + ((s : Nat) : Int) + 1 + ((cIntS x.1.1.2 : Nat) : Int) + ((cIntS x.1.2 : Nat) : Int) + 1 + ((cIntS x.2.1.1.2 : Nat) : Int) + ((cIntS x.2.1.2 : Nat) : Int) + 1 + ((cIntS x.2.2.1.1.2 : Nat) : Int) + ((cIntS x.2.2.1.2 : Nat) : Int)) % 3 == 0), .slice y3_0_z1 y3_0_n1 y3_0_y1], [.slice y3_z1 y3_n1 y3_y1], rfl, rfl, ⟨[], y3_0_d0, [.bool ((q + ((s : Nat) : Int) + 1 + ((cIntS x.1.1.2 : Nat) : Int) + ((cIntS x.1.2 : Nat) : Int) + 1 + ((cIntS x.2.1.1.2 : Nat) : Int) + ((cIntS x.2.1.2 : Nat) : Int) + 1 + ((cIntS x.2.2.1.1.2 : Nat) : Int) + ((cIntS x.2.2.1.2 : Nat) : Int)) % 3 == 0)], [.slice y3_0_z1 y3_0_n1 y3_0_y1], rfl, rfl, ⟨rfl, rfl⟩, (mk_eq O10.out (by first | rfl | simp only [Int.natCast_add, Int.add_assoc]))⟩, (mk_eq O11.out (by first | rfl | simp only [Int.natCast_add, Int.add_assoc]))⟩, ⟨(([] ++ y4_0_d0) ++ y4_d0), (([] ++ y5_0_d0) ++ y5_d0), [.bool ((q + ((s : Nat) : Int) + 1 + ((cIntS x.1.1.2 : Nat) : Int) + ((cIntS x.1.2 : Nat) : Int) + 1 + ((cIntS x.2.1.1.2 : Nat) : Int) + ((cIntS x.2.1.2 : Nat) : Int) + 1 + ((cIntS x.2.2.1.1.2 : Nat) : Int) + ((cIntS x.2.2.1.2 : Nat) : Int) + 1 + ((cIntS x.2.2.2.1.1.2 : Nat) : Int) + ((cIntS x.2.2.2.1.2 : Nat) : Int)) % 3 == 0), .slice y4_0_z1 y4_0_n1 y4_0_y1, .slice y4_z1 y4_n1 y4_y1], [.bool ((q + ((s : Nat) : Int) + 1 + ((cIntS x.1.1.2 : Nat) : Int) + ((cIntS x.1.2 : Nat) : Int) + 1 + ((cIntS x.2.1.1.2 : Nat) : Int) + ((cIntS x.2.1.2 : Nat) : Int) + 1 + ((cIntS x.2.2.1.1.2 : Nat) : Int) + ((cIntS x.2.2.1.2 : Nat) : Int) + 1 + ((cIntS x.2.2.2.1.1.2 : Nat) : Int) + ((cIntS x.2.2.2.1.2 : Nat) : Int) + 1 + ((cIntS x.2.2.2.2.1.1.2 : Nat) : Int) + ((cIntS x.2.2.2.2.1.2 : Nat) : Int)) % 3 == 0), .slice y5_0_z1 y5_0_n1 y5_0_y1, .slice y5_z1 y5_n1 y5_y1], rfl, rfl, ⟨([] ++ y4_0_d0), y4_d0, [.bool ((q + ((s : Nat) : Int) + 1 + ((cIntS x.1.1.2 : Nat) : Int) + ((cIntS x.1.2 : Nat) : Int) + 1 + ((cIntS x.2.1.1.2 : Nat) : Int) + ((cIntS x.2.1.2 : Nat) : Int) + 1 + ((cIntS x.2.2.1.1.2 : Nat) : Int) + ((cIntS x.2.2.1.2 : Nat) : Int) + 1 + ((cIntS x.2.2.2.1.1.2 : Nat) : Int) + ((cIntS x.2.2.2.1.2 : Nat) : Int)) % 3 == 0), .slice y4_0_z1 y4_0_n1 y4_0_y1], [.slice y4_z1 y4_n1 y4_y1], rfl, rfl, ⟨[], y4_0_d0, [.bool ((q + ((s : Nat) : Int) + 1 + ((cIntS x.1.1.2 : Nat) : Int) + ((cIntS x.1.2 : Nat) : Int) + 1 + ((cIntS x.2.1.1.2 : Nat) : Int) + ((cIntS x.2.1.2 : Nat) : Int) + 1 + ((cIntS x.2.2.1.1.2 : Nat) : Int) + ((cIntS x.2.2.1.2 : Nat) : Int) + 1 + ((cIntS x.2.2.2.1.1.2 : Nat) : Int) + ((cIntS x.2.2.2.1.2 : Nat) : Int)) % 3 == 0)], [.slice y4_0_z1 y4_0_n1 y4_0_y1], rfl, rfl, ⟨rfl, rfl⟩, (mk_eq O13.out (by first | rfl | simp only [Int.natCast_add, Int.add_assoc]))⟩, (mk_eq O14.out (by first | rfl | simp only [Int.natCast_add, Int.add_assoc]))⟩, ⟨([] ++ y5_0_d0), y5_d0, [.bool ((q + ((s : Nat) : Int) + 1 + ((cIntS x.1.1.2 : Nat) : Int) + ((cIntS x.1.2 : Nat) : Int) + 1 + ((cIntS x.2.1.1.2 : Nat) : Int) + ((cIntS x.2.1.2 : Nat) : Int) + 1 + ((cIntS x.2.2.1.1.2 : Nat) : Int) + ((cIntS x.2.2.1.2 : Nat) : Int) + 1 + ((cIntS x.2.2.2.1.1.2 : Nat) : Int) + ((cIntS x.2.2.2.1.2 : Nat) : Int) + 1 + ((cIntS x.2.2.2.2.1.1.2 : Nat) : Int) + ((cIntS x.2.2.2.2.1.2 : Nat) : Int)) % 3 == 0), .slice y5_0_z1 y5_0_n1 y5_0_y1], [.slice y5_z1 y5_n1 y5_y1], rfl, rfl, ⟨[], y5_0_d0, [.bool ((q + ((s : Nat) : Int) + 1 + ((cIntS x.1.1.2 : Nat) : Int) + ((cIntS x.1.2 : Nat) : Int) + 1 + ((cIntS x.2.1.1.2 : Nat) : Int) + ((cIntS x.2.1.2 : Nat) : Int) + 1 + ((cIntS x.2.2.1.1.2 : Nat) : Int) + ((cIntS x.2.2.1.2 : Nat) : Int) + 1 + ((cIntS x.2.2.2.1.1.2 : Nat) : Int) + ((cIntS x.2.2.2.1.2 : Nat) : Int) + 1 + ((cIntS x.2.2.2.2.1.1.2 : Nat) : Int) + ((cIntS x.2.2.2.2.1.2 : Nat) : Int)) % 3 == 0)], [.slice y5_0_z1 y5_0_n1 y5_0_y1], rfl, rfl, ⟨rfl, rfl⟩, (mk_eq O16.out (by first | rfl | simp only [Int.natCast_add, Int.add_assoc]))⟩, (mk_eq O17.out (by first | rfl | simp only [Int.natCast_add, Int.add_assoc]))⟩⟩⟩⟩⟩⟩)⟩
      case measure => simp [intOf]; omega
    · go_wp2_with fail
      go_ret
      obtain rfl : k = n := by omega
      have e1 : s = M := by have h2 := HS.out; rw [HN.out, List.take_length] at h2; rw [h2, HM.out]; rfl
      refine ⟨ret_int (by rw [e1]), HT.out, ?_⟩
      have h3 := HO.out
      rw [HN.out, mix_all] at h3
      rw [HN.out]
      exact h3
end Go.Proofs.Ytbbibfeblaocfaa
