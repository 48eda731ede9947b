/- markWallS, heldWallS: marks in what a value owns. -/
import Derived.Test.YtbbibfeblaocfaaGMk
import Derived.Deep.RegionHeld3
namespace Go.Proofs.Ytbbibfeblaocfaa
open Go.RowKit
set_option maxRecDepth 16000 in
set_option maxHeartbeats 6400000 in
theorem laws_markWallS_ (bs : List Nat) (v : Value) (l : List (QWall)) (q : Int) (w : World) (hv : tWallS.own bs w [v] l) (hnd : bs.Nodup) (h0 : 0 ≤ q) (h1 : q + (cWallS l : Nat) ≤ 1000000000) (hl : wWallS l ≤ 1048576) :
    Calls Try.prog 159 #[v, .int .i64 q] w fun e w' => e = .returned (.int .i64 (q + (cWallS l : Nat))) ∧ Turns bs w w' ∧ tWallS.own bs w' [v] (mkWallS l q) := by
  obtain ⟨ao, cap, rfl⟩ := sl_len (Ty.rd_at ((tSlice _).own_rd hv))
  have HV := Lib.hid hv; have HND := Lib.hid hnd; clear hv hnd
  have HL := Lib.hid hl; clear hl
  obtain ⟨M, hM⟩ : ∃ M, M = cWallS l := ⟨_, rfl⟩
  have HM := Lib.hid hM
  rw [← hM] at h1 ⊢
  clear hM
  obtain ⟨n, hn⟩ : ∃ n, n = l.length := ⟨_, rfl⟩
  have hn1 : n ≤ 1048576 := by have := HL.out; unfold wWallS at this; omega
  rw [← hn] at HV ⊢
  have HN := Lib.hid hn; clear hn
  go_enter Try.func159, Try.ntmps159
  go_wp2_with fail
  go_loopw [1, 5] (fun c i wr => ∃ k s : Nat, k ≤ n ∧ i = .int .i64 k ∧ c = .int .i64 (q + s) ∧ s ≤ M ∧ Hid (s = wsum ceWall (l.take k)) ∧ Hid (Turns bs w wr) ∧ Hid (tWallS.own bs wr [.slice ao n cap] (mix meWall ceWall l q k))) (fun _ i _ => n - (intOf i).toNat)
  case atStart => exact ⟨0, 0, Nat.zero_le _, rfl, by simp, Nat.zero_le _, Lib.hid rfl, Lib.hid (Turns.refl _ _), Lib.hid (by rw [mix_zero]; exact HV.out)⟩
  case round =>
    clear HV
    obtain ⟨k, s, hk, rfl, rfl, hsM, HS, HT, HO⟩ := hrel
    by_cases hlt : k < n
    · obtain ⟨x, hx⟩ : ∃ x, l[k]? = some x := ⟨_, List.getElem?_eq_getElem (by rw [← HN.out]; exact hlt)⟩
      have hx_ := hx
      have hse : s + ceWall x ≤ M := by
        have h2 := wsum_next (f := ceWall) hx
        have h3 := wsum_take ceWall l (k + 1)
        have h4 := HM.out
        have h5 := HS.out
        unfold cWallS at h4
        omega
      have HX := Lib.hid hx; clear hx hx_
      obtain ⟨g, bi, c, cap', hv', FO, ho, hnb⟩ := Foc.start HO.out HND.out (mix_get meWall ceWall q HX.out)
      simp only [Value.slice.injEq] at hv'
      obtain ⟨rfl, -, rfl⟩ := hv'
      clear HO
      obtain ⟨yb0, yd0, yc0, ye0, rfl, rfl, yf0, yg0⟩ := ho
      obtain ⟨yb1, yd1, yc1, ye1, rfl, rfl, yf1, yg1⟩ := yg0
      obtain ⟨y0_b0, y0_d0, y0_c0, y0_e0, rfl, rfl, y0_f0, y0_g0⟩ := yf0
      obtain ⟨y0_0_b0, y0_0_d0, y0_0_c0, y0_0_e0, rfl, rfl, y0_0_f0, y0_0_g0⟩ := y0_f0
      obtain ⟨rfl, rfl⟩ := y0_0_f0
      obtain ⟨y0_0_z1, y0_0_n1, y0_0_y1, rfl⟩ := sh_slice (Ty.rd_at ((tSlice _).own_rd y0_0_g0))
      obtain ⟨y0_z1, y0_n1, y0_y1, rfl⟩ := sh_slice (Ty.rd_at ((tSlice _).own_rd y0_g0))
      obtain ⟨y1_b0, y1_d0, y1_c0, y1_e0, rfl, rfl, y1_f0, y1_g0⟩ := yf1
      obtain ⟨y1_0_b0, y1_0_d0, y1_0_c0, y1_0_e0, rfl, rfl, y1_0_f0, y1_0_g0⟩ := y1_f0
      obtain ⟨rfl, rfl⟩ := y1_0_f0
      obtain ⟨y1_0_z1, y1_0_n1, y1_0_y1, rfl⟩ := sh_slice (Ty.rd_at ((tSlice _).own_rd y1_0_g0))
      obtain ⟨y1_z1, y1_n1, y1_y1, rfl⟩ := sh_slice (Ty.rd_at ((tSlice _).own_rd y1_g0))
      obtain ⟨y2_b0, y2_d0, y2_c0, y2_e0, rfl, rfl, y2_f0, y2_g0⟩ := yg1
      obtain ⟨y2_0_b0, y2_0_d0, y2_0_c0, y2_0_e0, rfl, rfl, y2_0_f0, y2_0_g0⟩ := y2_f0
      obtain ⟨rfl, rfl⟩ := y2_0_f0
      obtain ⟨y2_0_z1, y2_0_n1, y2_0_y1, rfl⟩ := sh_slice (Ty.rd_at ((tSlice _).own_rd y2_0_g0))
      obtain ⟨y2_z1, y2_n1, y2_y1, rfl⟩ := sh_slice (Ty.rd_at ((tSlice _).own_rd y2_g0))
      have hnb_ : (y0_0_d0 ++ (y0_d0 ++ (y1_0_d0 ++ (y1_d0 ++ (y2_0_d0 ++ (y2_d0)))))).Nodup := by simpa [List.append_assoc] using hnb
      simp only [List.nodup_append] at hnb_
      obtain ⟨n0_, ⟨n1_, ⟨n2_, ⟨n3_, ⟨n4_, n5_, d4_⟩, d3_⟩, d2_⟩, d1_⟩, d0_⟩ := hnb_
      have hgm := FO.mem; have hg0 := FO.hg
      have gn0 : g ∉ y0_0_d0 := fun h => FO.out (by simp [h])
      have gn1 : g ∉ y0_d0 := fun h => FO.out (by simp [h])
      have gn2 : g ∉ y1_0_d0 := fun h => FO.out (by simp [h])
      have gn3 : g ∉ y1_d0 := fun h => FO.out (by simp [h])
      have gn4 : g ∉ y2_0_d0 := fun h => FO.out (by simp [h])
      have gn5 : g ∉ y2_d0 := fun h => FO.out (by simp [h])
      have O1 := Lib.hid y0_0_g0; clear y0_0_g0
      have W1 : Hid (wIntS x.1.1.2 ≤ 1048576) := Lib.hid (by have := wsum_el (f := wWall) HX.out; have := HL.out; unfold wWallS at this; unfold wWall wRat wBigInt at *; omega)
      have O2 := Lib.hid y0_g0; clear y0_g0
      have W2 : Hid (wIntS x.1.2 ≤ 1048576) := Lib.hid (by have := wsum_el (f := wWall) HX.out; have := HL.out; unfold wWallS at this; unfold wWall wRat wBigInt at *; omega)
      have O4 := Lib.hid y1_0_g0; clear y1_0_g0
      have W4 : Hid (wIntS x.2.1.1.2 ≤ 1048576) := Lib.hid (by have := wsum_el (f := wWall) HX.out; have := HL.out; unfold wWallS at this; unfold wWall wRat wBigInt at *; omega)
      have O5 := Lib.hid y1_g0; clear y1_g0
      have W5 : Hid (wIntS x.2.1.2 ≤ 1048576) := Lib.hid (by have := wsum_el (f := wWall) HX.out; have := HL.out; unfold wWallS at this; unfold wWall wRat wBigInt at *; omega)
      have O7 := Lib.hid y2_0_g0; clear y2_0_g0
      have W7 : Hid (wIntS x.2.2.1.2 ≤ 1048576) := Lib.hid (by have := wsum_el (f := wWall) HX.out; have := HL.out; unfold wWallS at this; unfold wWall wRat wBigInt at *; omega)
      have O8 := Lib.hid y2_g0; clear y2_g0
      have W8 : Hid (wIntS x.2.2.2 ≤ 1048576) := Lib.hid (by have := wsum_el (f := wWall) HX.out; have := HL.out; unfold wWallS at this; unfold wWall wRat wBigInt at *; omega)
      have hce : ceWall x = 1 + cIntS x.1.1.2 + cIntS x.1.2 + 1 + cIntS x.2.1.1.2 + cIntS x.2.1.2 + 1 + cIntS x.2.2.1.2 + cIntS x.2.2.2 := rfl
      rw [hce] at hse
      have p0 : wr.cell? ⟨g, k * 9, none⟩ = some (.bool x.1.1.1) := FO.cell (j := 0) rfl
      have u0 : wr.frozen? ⟨g, k * 9, none⟩ = false := FO.free _
      have p1 : wr.cell? ⟨g, k * 9 + 1, none⟩ = some (.slice y0_0_z1 y0_0_n1 y0_0_y1) := FO.cell (j := 1) rfl
      have u1 : wr.frozen? ⟨g, k * 9 + 1, none⟩ = false := FO.free _
      have p2 : wr.cell? ⟨g, k * 9 + 2, none⟩ = some (.slice y0_z1 y0_n1 y0_y1) := FO.cell (j := 2) rfl
      have u2 : wr.frozen? ⟨g, k * 9 + 2, none⟩ = false := FO.free _
      have p3 : wr.cell? ⟨g, k * 9 + 3, none⟩ = some (.bool x.2.1.1.1) := FO.cell (j := 3) rfl
      have u3 : wr.frozen? ⟨g, k * 9 + 3, none⟩ = false := FO.free _
      have p4 : wr.cell? ⟨g, k * 9 + 4, none⟩ = some (.slice y1_0_z1 y1_0_n1 y1_0_y1) := FO.cell (j := 4) rfl
      have u4 : wr.frozen? ⟨g, k * 9 + 4, none⟩ = false := FO.free _
      have p5 : wr.cell? ⟨g, k * 9 + 5, none⟩ = some (.slice y1_z1 y1_n1 y1_y1) := FO.cell (j := 5) rfl
      have u5 : wr.frozen? ⟨g, k * 9 + 5, none⟩ = false := FO.free _
      have p6 : wr.cell? ⟨g, k * 9 + 6, none⟩ = some (.bool x.2.2.1.1) := FO.cell (j := 6) rfl
      have u6 : wr.frozen? ⟨g, k * 9 + 6, none⟩ = false := FO.free _
      have p7 : wr.cell? ⟨g, k * 9 + 7, none⟩ = some (.slice y2_0_z1 y2_0_n1 y2_0_y1) := FO.cell (j := 7) rfl
      have u7 : wr.frozen? ⟨g, k * 9 + 7, none⟩ = false := FO.free _
      have p8 : wr.cell? ⟨g, k * 9 + 8, none⟩ = some (.slice y2_z1 y2_n1 y2_y1) := FO.cell (j := 8) rfl
      have u8 : wr.frozen? ⟨g, k * 9 + 8, none⟩ = false := FO.free _
      have FOh := Lib.hid FO; clear FO
      go_wp2_with fail
      refine (laws_markIntS_ y0_0_d0 _ x.1.1.2 _ _ (Ty.own_turns O1.out ((Turns.refl [g] _).setCell (.inl (by simp)) _) (fun k hk hk' => by simp at hk'; subst hk'; exact gn0 hk)) n0_ (by omega) (by omega) W1.out).mono ?_
      rintro e w1 ⟨rfl, T1, P1⟩
      have O1x := Lib.hid P1; clear P1 O1; have O1 := O1x; clear O1x
      have O2x := Lib.hid (Ty.own_turns (Ty.own_turns O2.out ((Turns.refl [g] _).setCell (.inl (by simp)) _) (fun k hk hk' => by simp at hk'; subst hk'; exact gn1 hk)) T1 (fun k hk hk' => d0_ k hk' k (by simp [hk]) rfl)); clear O2; have O2 := O2x; clear O2x
      have O4x := Lib.hid (Ty.own_turns (Ty.own_turns O4.out ((Turns.refl [g] _).setCell (.inl (by simp)) _) (fun k hk hk' => by simp at hk'; subst hk'; exact gn2 hk)) T1 (fun k hk hk' => d0_ k hk' k (by simp [hk]) rfl)); clear O4; have O4 := O4x; clear O4x
      have O5x := Lib.hid (Ty.own_turns (Ty.own_turns O5.out ((Turns.refl [g] _).setCell (.inl (by simp)) _) (fun k hk hk' => by simp at hk'; subst hk'; exact gn3 hk)) T1 (fun k hk hk' => d0_ k hk' k (by simp [hk]) rfl)); clear O5; have O5 := O5x; clear O5x
      have O7x := Lib.hid (Ty.own_turns (Ty.own_turns O7.out ((Turns.refl [g] _).setCell (.inl (by simp)) _) (fun k hk hk' => by simp at hk'; subst hk'; exact gn4 hk)) T1 (fun k hk hk' => d0_ k hk' k (by simp [hk]) rfl)); clear O7; have O7 := O7x; clear O7x
      have O8x := Lib.hid (Ty.own_turns (Ty.own_turns O8.out ((Turns.refl [g] _).setCell (.inl (by simp)) _) (fun k hk hk' => by simp at hk'; subst hk'; exact gn5 hk)) T1 (fun k hk hk' => d0_ k hk' k (by simp [hk]) rfl)); clear O8; have O8 := O8x; clear O8x
      have FO1 := Lib.hid ((FOh.out.setN (j := 0) (o := k * 9) (by decide) rfl (.bool ((q + ((s : Nat) : Int)) % 3 == 0))).turn T1 (fun k hk => by simp [hk]))
      have TR1 := Lib.hid ((HT.out.setCell (.inl hgm) _).trans (T1.mono (fun k hk => FOh.out.sub k (by simp [hk]))))
      have p1_2 : w1.cell? ⟨g, k * 9 + 2, none⟩ = some (.slice y0_z1 y0_n1 y0_y1) := FO1.out.cell (j := 2) rfl
      have u1_2 : w1.frozen? ⟨g, k * 9 + 2, none⟩ = false := FO1.out.free _
      have p1_3 : w1.cell? ⟨g, k * 9 + 3, none⟩ = some (.bool x.2.1.1.1) := FO1.out.cell (j := 3) rfl
      have u1_3 : w1.frozen? ⟨g, k * 9 + 3, none⟩ = false := FO1.out.free _
      have p1_4 : w1.cell? ⟨g, k * 9 + 4, none⟩ = some (.slice y1_0_z1 y1_0_n1 y1_0_y1) := FO1.out.cell (j := 4) rfl
      have u1_4 : w1.frozen? ⟨g, k * 9 + 4, none⟩ = false := FO1.out.free _
      have p1_5 : w1.cell? ⟨g, k * 9 + 5, none⟩ = some (.slice y1_z1 y1_n1 y1_y1) := FO1.out.cell (j := 5) rfl
      have u1_5 : w1.frozen? ⟨g, k * 9 + 5, none⟩ = false := FO1.out.free _
      have p1_6 : w1.cell? ⟨g, k * 9 + 6, none⟩ = some (.bool x.2.2.1.1) := FO1.out.cell (j := 6) rfl
      have u1_6 : w1.frozen? ⟨g, k * 9 + 6, none⟩ = false := FO1.out.free _
      have p1_7 : w1.cell? ⟨g, k * 9 + 7, none⟩ = some (.slice y2_0_z1 y2_0_n1 y2_0_y1) := FO1.out.cell (j := 7) rfl
      have u1_7 : w1.frozen? ⟨g, k * 9 + 7, none⟩ = false := FO1.out.free _
      have p1_8 : w1.cell? ⟨g, k * 9 + 8, none⟩ = some (.slice y2_z1 y2_n1 y2_y1) := FO1.out.cell (j := 8) rfl
      have u1_8 : w1.frozen? ⟨g, k * 9 + 8, none⟩ = false := FO1.out.free _
      go_wp2_with fail
      refine (laws_markIntS_ y0_d0 _ x.1.2 _ _ O2.out n1_ (by omega) (by omega) W2.out).mono ?_
      rintro e w2 ⟨rfl, T2, P2⟩
      have O1x := Lib.hid (Ty.own_turns O1.out T2 (fun k hk hk' => d0_ k hk k (by simp [hk']) rfl)); clear O1; have O1 := O1x; clear O1x
      have O2x := Lib.hid P2; clear P2 O2; have O2 := O2x; clear O2x
      have O4x := Lib.hid (Ty.own_turns O4.out T2 (fun k hk hk' => d1_ k hk' k (by simp [hk]) rfl)); clear O4; have O4 := O4x; clear O4x
      have O5x := Lib.hid (Ty.own_turns O5.out T2 (fun k hk hk' => d1_ k hk' k (by simp [hk]) rfl)); clear O5; have O5 := O5x; clear O5x
      have O7x := Lib.hid (Ty.own_turns O7.out T2 (fun k hk hk' => d1_ k hk' k (by simp [hk]) rfl)); clear O7; have O7 := O7x; clear O7x
      have O8x := Lib.hid (Ty.own_turns O8.out T2 (fun k hk hk' => d1_ k hk' k (by simp [hk]) rfl)); clear O8; have O8 := O8x; clear O8x
      have FO2 := Lib.hid (FO1.out.turn T2 (fun k hk => by simp [hk]))
      have TR2 := Lib.hid (TR1.out.trans (T2.mono (fun k hk => FOh.out.sub k (by simp [hk]))))
      have p2_3 : w2.cell? ⟨g, k * 9 + 3, none⟩ = some (.bool x.2.1.1.1) := FO2.out.cell (j := 3) rfl
      have u2_3 : w2.frozen? ⟨g, k * 9 + 3, none⟩ = false := FO2.out.free _
      have p2_4 : w2.cell? ⟨g, k * 9 + 4, none⟩ = some (.slice y1_0_z1 y1_0_n1 y1_0_y1) := FO2.out.cell (j := 4) rfl
      have u2_4 : w2.frozen? ⟨g, k * 9 + 4, none⟩ = false := FO2.out.free _
      have p2_5 : w2.cell? ⟨g, k * 9 + 5, none⟩ = some (.slice y1_z1 y1_n1 y1_y1) := FO2.out.cell (j := 5) rfl
      have u2_5 : w2.frozen? ⟨g, k * 9 + 5, none⟩ = false := FO2.out.free _
      have p2_6 : w2.cell? ⟨g, k * 9 + 6, none⟩ = some (.bool x.2.2.1.1) := FO2.out.cell (j := 6) rfl
      have u2_6 : w2.frozen? ⟨g, k * 9 + 6, none⟩ = false := FO2.out.free _
      have p2_7 : w2.cell? ⟨g, k * 9 + 7, none⟩ = some (.slice y2_0_z1 y2_0_n1 y2_0_y1) := FO2.out.cell (j := 7) rfl
      have u2_7 : w2.frozen? ⟨g, k * 9 + 7, none⟩ = false := FO2.out.free _
      have p2_8 : w2.cell? ⟨g, k * 9 + 8, none⟩ = some (.slice y2_z1 y2_n1 y2_y1) := FO2.out.cell (j := 8) rfl
      have u2_8 : w2.frozen? ⟨g, k * 9 + 8, none⟩ = false := FO2.out.free _
      go_wp2_with fail
      refine (laws_markIntS_ y1_0_d0 _ x.2.1.1.2 _ _ (Ty.own_turns O4.out ((Turns.refl [g] _).setCell (.inl (by simp)) _) (fun k hk hk' => by simp at hk'; subst hk'; exact gn2 hk)) n2_ (by omega) (by omega) W4.out).mono ?_
      rintro e w3 ⟨rfl, T3, P4⟩
      have O1x := Lib.hid (Ty.own_turns (Ty.own_turns O1.out ((Turns.refl [g] _).setCell (.inl (by simp)) _) (fun k hk hk' => by simp at hk'; subst hk'; exact gn0 hk)) T3 (fun k hk hk' => d0_ k hk k (by simp [hk']) rfl)); clear O1; have O1 := O1x; clear O1x
      have O2x := Lib.hid (Ty.own_turns (Ty.own_turns O2.out ((Turns.refl [g] _).setCell (.inl (by simp)) _) (fun k hk hk' => by simp at hk'; subst hk'; exact gn1 hk)) T3 (fun k hk hk' => d1_ k hk k (by simp [hk']) rfl)); clear O2; have O2 := O2x; clear O2x
      have O4x := Lib.hid P4; clear P4 O4; have O4 := O4x; clear O4x
      have O5x := Lib.hid (Ty.own_turns (Ty.own_turns O5.out ((Turns.refl [g] _).setCell (.inl (by simp)) _) (fun k hk hk' => by simp at hk'; subst hk'; exact gn3 hk)) T3 (fun k hk hk' => d2_ k hk' k (by simp [hk]) rfl)); clear O5; have O5 := O5x; clear O5x
      have O7x := Lib.hid (Ty.own_turns (Ty.own_turns O7.out ((Turns.refl [g] _).setCell (.inl (by simp)) _) (fun k hk hk' => by simp at hk'; subst hk'; exact gn4 hk)) T3 (fun k hk hk' => d2_ k hk' k (by simp [hk]) rfl)); clear O7; have O7 := O7x; clear O7x
      have O8x := Lib.hid (Ty.own_turns (Ty.own_turns O8.out ((Turns.refl [g] _).setCell (.inl (by simp)) _) (fun k hk hk' => by simp at hk'; subst hk'; exact gn5 hk)) T3 (fun k hk hk' => d2_ k hk' k (by simp [hk]) rfl)); clear O8; have O8 := O8x; clear O8x
      have FO3 := Lib.hid ((FO2.out.setN (j := 3) (o := k * 9 + 3) (by decide) rfl (.bool ((q + ((s : Nat) : Int) + 1 + ((cIntS x.1.1.2 : Nat) : Int) + ((cIntS x.1.2 : Nat) : Int)) % 3 == 0))).turn T3 (fun k hk => by simp [hk]))
      have TR3 := Lib.hid ((TR2.out.setCell (.inl hgm) _).trans (T3.mono (fun k hk => FOh.out.sub k (by simp [hk]))))
      have p3_5 : w3.cell? ⟨g, k * 9 + 5, none⟩ = some (.slice y1_z1 y1_n1 y1_y1) := FO3.out.cell (j := 5) rfl
      have u3_5 : w3.frozen? ⟨g, k * 9 + 5, none⟩ = false := FO3.out.free _
      have p3_6 : w3.cell? ⟨g, k * 9 + 6, none⟩ = some (.bool x.2.2.1.1) := FO3.out.cell (j := 6) rfl
      have u3_6 : w3.frozen? ⟨g, k * 9 + 6, none⟩ = false := FO3.out.free _
      have p3_7 : w3.cell? ⟨g, k * 9 + 7, none⟩ = some (.slice y2_0_z1 y2_0_n1 y2_0_y1) := FO3.out.cell (j := 7) rfl
      have u3_7 : w3.frozen? ⟨g, k * 9 + 7, none⟩ = false := FO3.out.free _
      have p3_8 : w3.cell? ⟨g, k * 9 + 8, none⟩ = some (.slice y2_z1 y2_n1 y2_y1) := FO3.out.cell (j := 8) rfl
      have u3_8 : w3.frozen? ⟨g, k * 9 + 8, none⟩ = false := FO3.out.free _
      go_wp2_with fail
      refine (laws_markIntS_ y1_d0 _ x.2.1.2 _ _ O5.out n3_ (by omega) (by omega) W5.out).mono ?_
      rintro e w4 ⟨rfl, T4, P5⟩
      have O1x := Lib.hid (Ty.own_turns O1.out T4 (fun k hk hk' => d0_ k hk k (by simp [hk']) rfl)); clear O1; have O1 := O1x; clear O1x
      have O2x := Lib.hid (Ty.own_turns O2.out T4 (fun k hk hk' => d1_ k hk k (by simp [hk']) rfl)); clear O2; have O2 := O2x; clear O2x
      have O4x := Lib.hid (Ty.own_turns O4.out T4 (fun k hk hk' => d2_ k hk k (by simp [hk']) rfl)); clear O4; have O4 := O4x; clear O4x
      have O5x := Lib.hid P5; clear P5 O5; have O5 := O5x; clear O5x
      have O7x := Lib.hid (Ty.own_turns O7.out T4 (fun k hk hk' => d3_ k hk' k (by simp [hk]) rfl)); clear O7; have O7 := O7x; clear O7x
      have O8x := Lib.hid (Ty.own_turns O8.out T4 (fun k hk hk' => d3_ k hk' k (by simp [hk]) rfl)); clear O8; have O8 := O8x; clear O8x
      have FO4 := Lib.hid (FO3.out.turn T4 (fun k hk => by simp [hk]))
      have TR4 := Lib.hid (TR3.out.trans (T4.mono (fun k hk => FOh.out.sub k (by simp [hk]))))
      have p4_6 : w4.cell? ⟨g, k * 9 + 6, none⟩ = some (.bool x.2.2.1.1) := FO4.out.cell (j := 6) rfl
      have u4_6 : w4.frozen? ⟨g, k * 9 + 6, none⟩ = false := FO4.out.free _
      have p4_7 : w4.cell? ⟨g, k * 9 + 7, none⟩ = some (.slice y2_0_z1 y2_0_n1 y2_0_y1) := FO4.out.cell (j := 7) rfl
      have u4_7 : w4.frozen? ⟨g, k * 9 + 7, none⟩ = false := FO4.out.free _
      have p4_8 : w4.cell? ⟨g, k * 9 + 8, none⟩ = some (.slice y2_z1 y2_n1 y2_y1) := FO4.out.cell (j := 8) rfl
      have u4_8 : w4.frozen? ⟨g, k * 9 + 8, none⟩ = false := FO4.out.free _
      go_wp2_with fail
      refine (laws_markIntS_ y2_0_d0 _ x.2.2.1.2 _ _ (Ty.own_turns O7.out ((Turns.refl [g] _).setCell (.inl (by simp)) _) (fun k hk hk' => by simp at hk'; subst hk'; exact gn4 hk)) n4_ (by omega) (by omega) W7.out).mono ?_
      rintro e w5 ⟨rfl, T5, P7⟩
      have O1x := Lib.hid (Ty.own_turns (Ty.own_turns O1.out ((Turns.refl [g] _).setCell (.inl (by simp)) _) (fun k hk hk' => by simp at hk'; subst hk'; exact gn0 hk)) T5 (fun k hk hk' => d0_ k hk k (by simp [hk']) rfl)); clear O1; have O1 := O1x; clear O1x
      have O2x := Lib.hid (Ty.own_turns (Ty.own_turns O2.out ((Turns.refl [g] _).setCell (.inl (by simp)) _) (fun k hk hk' => by simp at hk'; subst hk'; exact gn1 hk)) T5 (fun k hk hk' => d1_ k hk k (by simp [hk']) rfl)); clear O2; have O2 := O2x; clear O2x
      have O4x := Lib.hid (Ty.own_turns (Ty.own_turns O4.out ((Turns.refl [g] _).setCell (.inl (by simp)) _) (fun k hk hk' => by simp at hk'; subst hk'; exact gn2 hk)) T5 (fun k hk hk' => d2_ k hk k (by simp [hk']) rfl)); clear O4; have O4 := O4x; clear O4x
      have O5x := Lib.hid (Ty.own_turns (Ty.own_turns O5.out ((Turns.refl [g] _).setCell (.inl (by simp)) _) (fun k hk hk' => by simp at hk'; subst hk'; exact gn3 hk)) T5 (fun k hk hk' => d3_ k hk k (by simp [hk']) rfl)); clear O5; have O5 := O5x; clear O5x
      have O7x := Lib.hid P7; clear P7 O7; have O7 := O7x; clear O7x
      have O8x := Lib.hid (Ty.own_turns (Ty.own_turns O8.out ((Turns.refl [g] _).setCell (.inl (by simp)) _) (fun k hk hk' => by simp at hk'; subst hk'; exact gn5 hk)) T5 (fun k hk hk' => d4_ k hk' k (by simp [hk]) rfl)); clear O8; have O8 := O8x; clear O8x
      have FO5 := Lib.hid ((FO4.out.setN (j := 6) (o := k * 9 + 6) (by decide) rfl (.bool ((q + ((s : Nat) : Int) + 1 + ((cIntS x.1.1.2 : Nat) : Int) + ((cIntS x.1.2 : Nat) : Int) + 1 + ((cIntS x.2.1.1.2 : Nat) : Int) + ((cIntS x.2.1.2 : Nat) : Int)) % 3 == 0))).turn T5 (fun k hk => by simp [hk]))
      have TR5 := Lib.hid ((TR4.out.setCell (.inl hgm) _).trans (T5.mono (fun k hk => FOh.out.sub k (by simp [hk]))))
      have p5_8 : w5.cell? ⟨g, k * 9 + 8, none⟩ = some (.slice y2_z1 y2_n1 y2_y1) := FO5.out.cell (j := 8) rfl
      have u5_8 : w5.frozen? ⟨g, k * 9 + 8, none⟩ = false := FO5.out.free _
      go_wp2_with fail
      refine (laws_markIntS_ y2_d0 _ x.2.2.2 _ _ O8.out n5_ (by omega) (by omega) W8.out).mono ?_
      rintro e w6 ⟨rfl, T6, P8⟩
      have O1x := Lib.hid (Ty.own_turns O1.out T6 (fun k hk hk' => d0_ k hk k (by simp [hk']) rfl)); clear O1; have O1 := O1x; clear O1x
      have O2x := Lib.hid (Ty.own_turns O2.out T6 (fun k hk hk' => d1_ k hk k (by simp [hk']) rfl)); clear O2; have O2 := O2x; clear O2x
      have O4x := Lib.hid (Ty.own_turns O4.out T6 (fun k hk hk' => d2_ k hk k (by simp [hk']) rfl)); clear O4; have O4 := O4x; clear O4x
      have O5x := Lib.hid (Ty.own_turns O5.out T6 (fun k hk hk' => d3_ k hk k (by simp [hk']) rfl)); clear O5; have O5 := O5x; clear O5x
      have O7x := Lib.hid (Ty.own_turns O7.out T6 (fun k hk hk' => d4_ k hk k (by simp [hk']) rfl)); clear O7; have O7 := O7x; clear O7x
      have O8x := Lib.hid P8; clear P8 O8; have O8 := O8x; clear O8x
      have FO6 := Lib.hid (FO5.out.turn T6 (fun k hk => by simp [hk]))
      have TR6 := Lib.hid (TR5.out.trans (T6.mono (fun k hk => FOh.out.sub k (by simp [hk]))))
      go_wp2_with fail
      go_roundw
      case rel => exact ⟨k + 1, s + ceWall x, by omega, by go_num, by congr 1; rw [hce]; omega, by omega, Lib.hid (by rw [wsum_next HX.out, HS.out]), Lib.hid TR6.out, Lib.hid (by rw [← mix_set meWall ceWall q HX.out, (show meWall x (q + ((wsum ceWall (l.take k) : Nat) : Int)) = (((((q + ((s : Nat) : Int)) % 3 == 0), mkIntS x.1.1.2 (q + ((s : Nat) : Int) + 1)), mkIntS x.1.2 (q + ((s : Nat) : Int) + 1 + ((cIntS x.1.1.2 : Nat) : Int))), ((((q + ((s : Nat) : Int) + 1 + ((cIntS x.1.1.2 : Nat) : Int) + ((cIntS x.1.2 : Nat) : Int)) % 3 == 0), mkIntS x.2.1.1.2 (q + ((s : Nat) : Int) + 1 + ((cIntS x.1.1.2 : Nat) : Int) + ((cIntS x.1.2 : Nat) : Int) + 1)), mkIntS x.2.1.2 (q + ((s : Nat) : Int) + 1 + ((cIntS x.1.1.2 : Nat) : Int) + ((cIntS x.1.2 : Nat) : Int) + 1 + ((cIntS x.2.1.1.2 : Nat) : Int))), ((((q + ((s : Nat) : Int) + 1 + ((cIntS x.1.1.2 : Nat) : Int) + ((cIntS x.1.2 : Nat) : Int) + 1 + ((cIntS x.2.1.1.2 : Nat) : Int) + ((cIntS x.2.1.2 : Nat) : Int)) % 3 == 0), mkIntS x.2.2.1.2 (q + ((s : Nat) : Int) + 1 + ((cIntS x.1.1.2 : Nat) : Int) + ((cIntS x.1.2 : Nat) : Int) + 1 + ((cIntS x.2.1.1.2 : Nat) : Int) + ((cIntS x.2.1.2 : Nat) : Int) + 1)), mkIntS x.2.2.2 (q + ((s : Nat) : Int) + 1 + ((cIntS x.1.1.2 : Nat) : Int) + ((cIntS x.1.2 : Nat) : Int) + 1 + ((cIntS x.2.1.1.2 : Nat) : Int) + ((cIntS x.2.1.2 : Nat) : Int) + 1 + ((cIntS x.2.2.1.2 : Nat) : Int)))) by rw [← HS.out]; unfold meWall; simp only [Int.natCast_add, Int.add_assoc, Int.natCast_one])]; exact Foc.close FO6.out ⟨(([] ++ y0_0_d0) ++ y0_d0), ((([] ++ y1_0_d0) ++ y1_d0) ++ (([] ++ y2_0_d0) ++ y2_d0)), [.bool ((q + ((s : Nat) : Int)) % 3 == 0), .slice y0_0_z1 y0_0_n1 y0_0_y1, .slice y0_z1 y0_n1 y0_y1], [.bool ((q + ((s : Nat) : Int) + 1 + ((cIntS x.1.1.2 : Nat) : Int) + ((cIntS x.1.2 : Nat) : Int)) % 3 == 0), .slice y1_0_z1 y1_0_n1 y1_0_y1, .slice y1_z1 y1_n1 y1_y1, .bool ((q + ((s : Nat) : Int) + 1 + ((cIntS x.1.1.2 : Nat) : Int) + ((cIntS x.1.2 : Nat) : Int) + 1 + ((cIntS x.2.1.1.2 : Nat) : Int) + ((cIntS x.2.1.2 : Nat) : Int)) % 3 == 0), .slice y2_0_z1 y2_0_n1 y2_0_y1, .slice y2_z1 y2_n1 y2_y1], rfl, rfl, ⟨([] ++ y0_0_d0), y0_d0, [.bool ((q + ((s : Nat) : Int)) % 3 == 0), .slice y0_0_z1 y0_0_n1 y0_0_y1], [.slice y0_z1 y0_n1 y0_y1], rfl, rfl, ⟨[], y0_0_d0, [.bool ((q + ((s : Nat) : Int)) % 3 == 0)], [.slice y0_0_z1 y0_0_n1 y0_0_y1], rfl, rfl, ⟨rfl, rfl⟩, (mk_eq O1.out (by first | rfl | simp only [Int.natCast_add, Int.add_assoc]))⟩, (mk_eq O2.out (by first | rfl | simp only [Int.natCast_add, Int.add_assoc]))⟩, ⟨(([] ++ y1_0_d0) ++ y1_d0), (([] ++ y2_0_d0) ++ y2_d0), [.bool ((q + ((s : Nat) : Int) + 1 + ((cIntS x.1.1.2 : Nat) : Int) + ((cIntS x.1.2 : Nat) : Int)) % 3 == 0), .slice y1_0_z1 y1_0_n1 y1_0_y1, .slice y1_z1 y1_n1 y1_y1], [.bool ((q + ((s : Nat) : Int) + 1 + ((cIntS x.1.1.2 : Nat) : Int) + ((cIntS x.1.2 : Nat) : Int) + 1 + ((cIntS x.2.1.1.2 : Nat) : Int) + ((cIntS x.2.1.2 : Nat) : Int)) % 3 == 0), .slice y2_0_z1 y2_0_n1 y2_0_y1, .slice y2_z1 y2_n1 y2_y1], rfl, rfl, ⟨([] ++ y1_0_d0), y1_d0, [.bool ((q + ((s : Nat) : Int) + 1 + ((cIntS x.1.1.2 : Nat) : Int) + ((cIntS x.1.2 : Nat) : Int)) % 3 == 0), .slice y1_0_z1 y1_0_n1 y1_0_y1], [.slice y1_z1 y1_n1 y1_y1], rfl, rfl, ⟨[], y1_0_d0, [.bool ((q + ((s : Nat) : Int) + 1 + ((cIntS x.1.1.2 : Nat) : Int) + ((cIntS x.1.2 : Nat) : Int)) % 3 == 0)], [.slice y1_0_z1 y1_0_n1 y1_0_y1], rfl, rfl, ⟨rfl, rfl⟩, (mk_eq O4.out (by first | rfl | simp only [Int.natCast_add, Int.add_assoc]))⟩, (mk_eq O5.out (by first | rfl | simp only [Int.natCast_add, Int.add_assoc]))⟩, ⟨([] ++ y2_0_d0), y2_d0, [.bool ((q + ((s : Nat) : Int) + 1 + ((cIntS x.1.1.2 : Nat) : Int) + ((cIntS x.1.2 : Nat) : Int) + 1 + ((cIntS x.2.1.1.2 : Nat) : Int) + ((cIntS x.2.1.2 : Nat) : Int)) % 3 == 0), .slice y2_0_z1 y2_0_n1 y2_0_y1], [.slice y2_z1 y2_n1 y2_y1], rfl, rfl, ⟨[], y2_0_d0, [.bool ((q + ((s : Nat) : Int) + 1 + ((cIntS x.1.1.2 : Nat) : Int) + ((cIntS x.1.2 : Nat) : Int) + 1 + ((cIntS x.2.1.1.2 : Nat) : Int) + ((cIntS x.2.1.2 : Nat) : Int)) % 3 == 0)], [.slice y2_0_z1 y2_0_n1 y2_0_y1], rfl, rfl, ⟨rfl, rfl⟩, (mk_eq O7.out (by first | rfl | simp only [Int.natCast_add, Int.add_assoc]))⟩, (mk_eq O8.out (by first | rfl | simp only [Int.natCast_add, Int.add_assoc]))⟩⟩⟩)⟩
      case measure => simp [intOf]; omega
    · go_wp2_with fail
      go_ret
      obtain rfl : k = n := by omega
      have e1 : s = M := by have h2 := HS.out; rw [HN.out, List.take_length] at h2; rw [h2, HM.out]; rfl
      refine ⟨ret_int (by rw [e1]), HT.out, ?_⟩
      have h3 := HO.out
      rw [HN.out, mix_all] at h3
      rw [HN.out]
      exact h3
end Go.Proofs.Ytbbibfeblaocfaa
