/- markSliceS, heldSliceS: marks in what a value owns. -/
import Derived.Test.YtbbibfeblaocfaaMkVecSS
import Derived.Test.YtbbibfeblaocfaaMkCellS
import Derived.Test.YtbbibfeblaocfaaMkWallS
import Derived.Test.YtbbibfeblaocfaaMkDoorS
import Derived.Test.YtbbibfeblaocfaaGMk
import Derived.Deep.RegionHeld3
namespace Go.Proofs.Ytbbibfeblaocfaa
open Go.RowKit
set_option maxRecDepth 16000 in
set_option maxHeartbeats 6400000 in
theorem laws_markSliceS_ (bs : List Nat) (v : Value) (l : List (QSlice)) (q : Int) (w : World) (hv : tSlcS.own bs w [v] l) (hnd : bs.Nodup) (h0 : 0 ≤ q) (h1 : q + (cSliceS l : Nat) ≤ 1000000000) (hl : wSliceS l ≤ 1048576) :
    Calls Try.prog 121 #[v, .int .i64 q] w fun e w' => e = .returned (.int .i64 (q + (cSliceS l : Nat))) ∧ Turns bs w w' ∧ tSlcS.own bs w' [v] (mkSliceS l q) := by
  obtain ⟨ao, cap, rfl⟩ := sl_len (Ty.rd_at ((tSlice _).own_rd hv))
  have HV := Lib.hid hv; have HND := Lib.hid hnd; clear hv hnd
  have HL := Lib.hid hl; clear hl
  obtain ⟨M, hM⟩ : ∃ M, M = cSliceS l := ⟨_, rfl⟩
  have HM := Lib.hid hM
  rw [← hM] at h1 ⊢
  clear hM
  obtain ⟨n, hn⟩ : ∃ n, n = l.length := ⟨_, rfl⟩
  have hn1 : n ≤ 1048576 := by have := HL.out; unfold wSliceS at this; omega
  rw [← hn] at HV ⊢
  have HN := Lib.hid hn; clear hn
  go_enter Try.func121, Try.ntmps121
  go_wp2_with fail
  go_loopw [1, 5] (fun c i wr => ∃ k s : Nat, k ≤ n ∧ i = .int .i64 k ∧ c = .int .i64 (q + s) ∧ s ≤ M ∧ Hid (s = wsum ceSlice (l.take k)) ∧ Hid (Turns bs w wr) ∧ Hid (tSlcS.own bs wr [.slice ao n cap] (mix meSlice ceSlice l q k))) (fun _ i _ => n - (intOf i).toNat)
  case atStart => exact ⟨0, 0, Nat.zero_le _, rfl, by simp, Nat.zero_le _, Lib.hid rfl, Lib.hid (Turns.refl _ _), Lib.hid (by rw [mix_zero]; exact HV.out)⟩
  case round =>
    clear HV
    obtain ⟨k, s, hk, rfl, rfl, hsM, HS, HT, HO⟩ := hrel
    by_cases hlt : k < n
    · obtain ⟨x, hx⟩ : ∃ x, l[k]? = some x := ⟨_, List.getElem?_eq_getElem (by rw [← HN.out]; exact hlt)⟩
      have hx_ := hx
      have hse : s + ceSlice x ≤ M := by
        have h2 := wsum_next (f := ceSlice) hx
        have h3 := wsum_take ceSlice l (k + 1)
        have h4 := HM.out
        have h5 := HS.out
        unfold cSliceS at h4
        omega
      have HX := Lib.hid hx; clear hx hx_
      obtain ⟨g, bi, c, cap', hv', FO, ho, hnb⟩ := Foc.start HO.out HND.out (mix_get meSlice ceSlice q HX.out)
      simp only [Value.slice.injEq] at hv'
      obtain ⟨rfl, -, rfl⟩ := hv'
      clear HO
      obtain ⟨yb0, yd0, yc0, ye0, rfl, rfl, yf0, yg0⟩ := ho
      obtain ⟨yb1, yd1, yc1, ye1, rfl, rfl, yf1, yg1⟩ := yg0
      obtain ⟨yb2, yd2, yc2, ye2, rfl, rfl, yf2, yg2⟩ := yg1
      obtain ⟨yb3, yd3, yc3, ye3, rfl, rfl, yf3, yg3⟩ := yg2
      obtain ⟨yb4, yd4, yc4, ye4, rfl, rfl, yf4, yg4⟩ := yg3
      obtain ⟨yb5, yd5, yc5, ye5, rfl, rfl, yf5, yg5⟩ := yg4
      obtain ⟨yb6, yd6, yc6, ye6, rfl, rfl, yf6, yg6⟩ := yg5
      obtain ⟨rfl, rfl, yo0⟩ := yf0
      obtain ⟨rfl, rfl⟩ := yf1
      obtain ⟨y2_b0, y2_d0, y2_c0, y2_e0, rfl, rfl, y2_f0, y2_g0⟩ := yf2
      obtain ⟨y2_0_b0, y2_0_d0, y2_0_c0, y2_0_e0, rfl, rfl, y2_0_f0, y2_0_g0⟩ := y2_f0
      obtain ⟨rfl, rfl, y2_0_o0⟩ := y2_0_f0
      obtain ⟨rfl, rfl, y2_0_o1⟩ := y2_0_g0
      obtain ⟨y2_1_b0, y2_1_d0, y2_1_c0, y2_1_e0, rfl, rfl, y2_1_f0, y2_1_g0⟩ := y2_g0
      obtain ⟨rfl, rfl, y2_1_o0⟩ := y2_1_f0
      obtain ⟨rfl, rfl, y2_1_o1⟩ := y2_1_g0
      obtain ⟨yz3, yn3, yy3, rfl⟩ := sh_slice (Ty.rd_at ((tSlice _).own_rd yf3))
      obtain ⟨yz4, yn4, yy4, rfl⟩ := sh_slice (Ty.rd_at ((tSlice _).own_rd yf4))
      obtain ⟨yz5, yn5, yy5, rfl⟩ := sh_slice (Ty.rd_at ((tSlice _).own_rd yf5))
      obtain ⟨yz6, yn6, yy6, rfl⟩ := sh_slice (Ty.rd_at ((tSlice _).own_rd yf6))
      obtain ⟨yz7, yn7, yy7, rfl⟩ := sh_slice (Ty.rd_at ((tSlice _).own_rd yg6))
      have hnb_ : (yb3 ++ (yb4 ++ (yb5 ++ (yb6 ++ (yd6))))).Nodup := by simpa [List.append_assoc] using hnb
      simp only [List.nodup_append] at hnb_
      obtain ⟨n0_, ⟨n1_, ⟨n2_, ⟨n3_, n4_, d3_⟩, d2_⟩, d1_⟩, d0_⟩ := hnb_
      have hgm := FO.mem; have hg0 := FO.hg
      have gn0 : g ∉ yb3 := fun h => FO.out (by simp [h])
      have gn1 : g ∉ yb4 := fun h => FO.out (by simp [h])
      have gn2 : g ∉ yb5 := fun h => FO.out (by simp [h])
      have gn3 : g ∉ yb6 := fun h => FO.out (by simp [h])
      have gn4 : g ∉ yd6 := fun h => FO.out (by simp [h])
      have O6 := Lib.hid yf3; clear yf3
      have W6 : Hid (wVecSS x.2.2.2.1 ≤ 1048576) := Lib.hid (by have := wsum_el (f := wSlice) HX.out; have := HL.out; unfold wSliceS at this; unfold wSlice at *; omega)
      have O7 := Lib.hid yf4; clear yf4
      have W7 : Hid (wCellS x.2.2.2.2.1 ≤ 1048576) := Lib.hid (by have := wsum_el (f := wSlice) HX.out; have := HL.out; unfold wSliceS at this; unfold wSlice at *; omega)
      have O8 := Lib.hid yf5; clear yf5
      have W8 : Hid (wWallS x.2.2.2.2.2.1 ≤ 1048576) := Lib.hid (by have := wsum_el (f := wSlice) HX.out; have := HL.out; unfold wSliceS at this; unfold wSlice at *; omega)
      have O9 := Lib.hid yf6; clear yf6
      have W9 : Hid (wDoorS x.2.2.2.2.2.2.1 ≤ 1048576) := Lib.hid (by have := wsum_el (f := wSlice) HX.out; have := HL.out; unfold wSliceS at this; unfold wSlice at *; omega)
      have O10 := Lib.hid yg6; clear yg6
      have W10 : Hid (wIntS x.2.2.2.2.2.2.2 ≤ 1048576) := Lib.hid (by have := wsum_el (f := wSlice) HX.out; have := HL.out; unfold wSliceS at this; unfold wSlice at *; omega)
      have hce : ceSlice x = 1 + 1 + 1 + 1 + 1 + 1 + cVecSS x.2.2.2.1 + cCellS x.2.2.2.2.1 + cWallS x.2.2.2.2.2.1 + cDoorS x.2.2.2.2.2.2.1 + cIntS x.2.2.2.2.2.2.2 := rfl
      rw [hce] at hse
      have p0 : wr.cell? ⟨g, k * 11, none⟩ = some (.int .i64 x.1) := FO.cell (j := 0) rfl
      have u0 : wr.frozen? ⟨g, k * 11, none⟩ = false := FO.free _
      have p1 : wr.cell? ⟨g, k * 11 + 1, none⟩ = some (.bool x.2.1) := FO.cell (j := 1) rfl
      have u1 : wr.frozen? ⟨g, k * 11 + 1, none⟩ = false := FO.free _
      have p2 : wr.cell? ⟨g, k * 11 + 2, none⟩ = some (.int .i64 x.2.2.1.1.1) := FO.cell (j := 2) rfl
      have u2 : wr.frozen? ⟨g, k * 11 + 2, none⟩ = false := FO.free _
      have p3 : wr.cell? ⟨g, k * 11 + 3, none⟩ = some (.int .i64 x.2.2.1.1.2) := FO.cell (j := 3) rfl
      have u3 : wr.frozen? ⟨g, k * 11 + 3, none⟩ = false := FO.free _
      have p4 : wr.cell? ⟨g, k * 11 + 4, none⟩ = some (.int .i64 x.2.2.1.2.1) := FO.cell (j := 4) rfl
      have u4 : wr.frozen? ⟨g, k * 11 + 4, none⟩ = false := FO.free _
      have p5 : wr.cell? ⟨g, k * 11 + 5, none⟩ = some (.int .i64 x.2.2.1.2.2) := FO.cell (j := 5) rfl
      have u5 : wr.frozen? ⟨g, k * 11 + 5, none⟩ = false := FO.free _
      have p6 : wr.cell? ⟨g, k * 11 + 6, none⟩ = some (.slice yz3 yn3 yy3) := FO.cell (j := 6) rfl
      have u6 : wr.frozen? ⟨g, k * 11 + 6, none⟩ = false := FO.free _
      have p7 : wr.cell? ⟨g, k * 11 + 7, none⟩ = some (.slice yz4 yn4 yy4) := FO.cell (j := 7) rfl
      have u7 : wr.frozen? ⟨g, k * 11 + 7, none⟩ = false := FO.free _
      have p8 : wr.cell? ⟨g, k * 11 + 8, none⟩ = some (.slice yz5 yn5 yy5) := FO.cell (j := 8) rfl
      have u8 : wr.frozen? ⟨g, k * 11 + 8, none⟩ = false := FO.free _
      have p9 : wr.cell? ⟨g, k * 11 + 9, none⟩ = some (.slice yz6 yn6 yy6) := FO.cell (j := 9) rfl
      have u9 : wr.frozen? ⟨g, k * 11 + 9, none⟩ = false := FO.free _
      have p10 : wr.cell? ⟨g, k * 11 + 10, none⟩ = some (.slice yz7 yn7 yy7) := FO.cell (j := 10) rfl
      have u10 : wr.frozen? ⟨g, k * 11 + 10, none⟩ = false := FO.free _
      have FOh := Lib.hid FO; clear FO
      go_wp2_with fail
      refine (laws_markVecSS_ yb3 _ x.2.2.2.1 _ _ (Ty.own_turns O6.out (((((((Turns.refl [g] _).setCell (.inl (by simp)) _).setCell (.inl (by simp)) _).setCell (.inl (by simp)) _).setCell (.inl (by simp)) _).setCell (.inl (by simp)) _).setCell (.inl (by simp)) _) (fun k hk hk' => by simp at hk'; subst hk'; exact gn0 hk)) n0_ (by omega) (by omega) W6.out).mono ?_
      rintro e w1 ⟨rfl, T1, P6⟩
      have O6x := Lib.hid P6; clear P6 O6; have O6 := O6x; clear O6x
      have O7x := Lib.hid (Ty.own_turns (Ty.own_turns O7.out (((((((Turns.refl [g] _).setCell (.inl (by simp)) _).setCell (.inl (by simp)) _).setCell (.inl (by simp)) _).setCell (.inl (by simp)) _).setCell (.inl (by simp)) _).setCell (.inl (by simp)) _) (fun k hk hk' => by simp at hk'; subst hk'; exact gn1 hk)) T1 (fun k hk hk' => d0_ k hk' k (by simp [hk]) rfl)); clear O7; have O7 := O7x; clear O7x
      have O8x := Lib.hid (Ty.own_turns (Ty.own_turns O8.out (((((((Turns.refl [g] _).setCell (.inl (by simp)) _).setCell (.inl (by simp)) _).setCell (.inl (by simp)) _).setCell (.inl (by simp)) _).setCell (.inl (by simp)) _).setCell (.inl (by simp)) _) (fun k hk hk' => by simp at hk'; subst hk'; exact gn2 hk)) T1 (fun k hk hk' => d0_ k hk' k (by simp [hk]) rfl)); clear O8; have O8 := O8x; clear O8x
      have O9x := Lib.hid (Ty.own_turns (Ty.own_turns O9.out (((((((Turns.refl [g] _).setCell (.inl (by simp)) _).setCell (.inl (by simp)) _).setCell (.inl (by simp)) _).setCell (.inl (by simp)) _).setCell (.inl (by simp)) _).setCell (.inl (by simp)) _) (fun k hk hk' => by simp at hk'; subst hk'; exact gn3 hk)) T1 (fun k hk hk' => d0_ k hk' k (by simp [hk]) rfl)); clear O9; have O9 := O9x; clear O9x
      have O10x := Lib.hid (Ty.own_turns (Ty.own_turns O10.out (((((((Turns.refl [g] _).setCell (.inl (by simp)) _).setCell (.inl (by simp)) _).setCell (.inl (by simp)) _).setCell (.inl (by simp)) _).setCell (.inl (by simp)) _).setCell (.inl (by simp)) _) (fun k hk hk' => by simp at hk'; subst hk'; exact gn4 hk)) T1 (fun k hk hk' => d0_ k hk' k (by simp [hk]) rfl)); clear O10; have O10 := O10x; clear O10x
      have FO1 := Lib.hid (((((((FOh.out.setN (j := 0) (o := k * 11) (by decide) rfl (.int .i64 (q + ((s : Nat) : Int)))).setN (j := 1) (o := k * 11 + 1) (by decide) rfl (.bool ((q + ((s : Nat) : Int) + 1) % 3 == 0))).setN (j := 2) (o := k * 11 + 2) (by decide) rfl (.int .i64 (q + ((s : Nat) : Int) + 1 + 1))).setN (j := 3) (o := k * 11 + 2 + 1) (by decide) rfl (.int .i64 (q + ((s : Nat) : Int) + 1 + 1 + 1))).setN (j := 4) (o := k * 11 + 2 + 2) (by decide) rfl (.int .i64 (q + ((s : Nat) : Int) + 1 + 1 + 1 + 1))).setN (j := 5) (o := k * 11 + 2 + 2 + 1) (by decide) rfl (.int .i64 (q + ((s : Nat) : Int) + 1 + 1 + 1 + 1 + 1))).turn T1 (fun k hk => by simp [hk]))
      have TR1 := Lib.hid (((((((HT.out.setCell (.inl hgm) _).setCell (.inl hgm) _).setCell (.inl hgm) _).setCell (.inl hgm) _).setCell (.inl hgm) _).setCell (.inl hgm) _).trans (T1.mono (fun k hk => FOh.out.sub k (by simp [hk]))))
      have p1_7 : w1.cell? ⟨g, k * 11 + 7, none⟩ = some (.slice yz4 yn4 yy4) := FO1.out.cell (j := 7) rfl
      have u1_7 : w1.frozen? ⟨g, k * 11 + 7, none⟩ = false := FO1.out.free _
      have p1_8 : w1.cell? ⟨g, k * 11 + 8, none⟩ = some (.slice yz5 yn5 yy5) := FO1.out.cell (j := 8) rfl
      have u1_8 : w1.frozen? ⟨g, k * 11 + 8, none⟩ = false := FO1.out.free _
      have p1_9 : w1.cell? ⟨g, k * 11 + 9, none⟩ = some (.slice yz6 yn6 yy6) := FO1.out.cell (j := 9) rfl
      have u1_9 : w1.frozen? ⟨g, k * 11 + 9, none⟩ = false := FO1.out.free _
      have p1_10 : w1.cell? ⟨g, k * 11 + 10, none⟩ = some (.slice yz7 yn7 yy7) := FO1.out.cell (j := 10) rfl
      have u1_10 : w1.frozen? ⟨g, k * 11 + 10, none⟩ = false := FO1.out.free _
      go_wp2_with fail
      refine (laws_markCellS_ yb4 _ x.2.2.2.2.1 _ _ O7.out n1_ (by omega) (by omega) W7.out).mono ?_
      rintro e w2 ⟨rfl, T2, P7⟩
      have O6x := Lib.hid (Ty.own_turns O6.out T2 (fun k hk hk' => d0_ k hk k (by simp [hk']) rfl)); clear O6; have O6 := O6x; clear O6x
      have O7x := Lib.hid P7; clear P7 O7; have O7 := O7x; clear O7x
      have O8x := Lib.hid (Ty.own_turns O8.out T2 (fun k hk hk' => d1_ k hk' k (by simp [hk]) rfl)); clear O8; have O8 := O8x; clear O8x
      have O9x := Lib.hid (Ty.own_turns O9.out T2 (fun k hk hk' => d1_ k hk' k (by simp [hk]) rfl)); clear O9; have O9 := O9x; clear O9x
      have O10x := Lib.hid (Ty.own_turns O10.out T2 (fun k hk hk' => d1_ k hk' k (by simp [hk]) rfl)); clear O10; have O10 := O10x; clear O10x
      have FO2 := Lib.hid (FO1.out.turn T2 (fun k hk => by simp [hk]))
      have TR2 := Lib.hid (TR1.out.trans (T2.mono (fun k hk => FOh.out.sub k (by simp [hk]))))
      have p2_8 : w2.cell? ⟨g, k * 11 + 8, none⟩ = some (.slice yz5 yn5 yy5) := FO2.out.cell (j := 8) rfl
      have u2_8 : w2.frozen? ⟨g, k * 11 + 8, none⟩ = false := FO2.out.free _
      have p2_9 : w2.cell? ⟨g, k * 11 + 9, none⟩ = some (.slice yz6 yn6 yy6) := FO2.out.cell (j := 9) rfl
      have u2_9 : w2.frozen? ⟨g, k * 11 + 9, none⟩ = false := FO2.out.free _
      have p2_10 : w2.cell? ⟨g, k * 11 + 10, none⟩ = some (.slice yz7 yn7 yy7) := FO2.out.cell (j := 10) rfl
      have u2_10 : w2.frozen? ⟨g, k * 11 + 10, none⟩ = false := FO2.out.free _
      go_wp2_with fail
      refine (laws_markWallS_ yb5 _ x.2.2.2.2.2.1 _ _ O8.out n2_ (by omega) (by omega) W8.out).mono ?_
      rintro e w3 ⟨rfl, T3, P8⟩
      have O6x := Lib.hid (Ty.own_turns O6.out T3 (fun k hk hk' => d0_ k hk k (by simp [hk']) rfl)); clear O6; have O6 := O6x; clear O6x
      have O7x := Lib.hid (Ty.own_turns O7.out T3 (fun k hk hk' => d1_ k hk k (by simp [hk']) rfl)); clear O7; have O7 := O7x; clear O7x
      have O8x := Lib.hid P8; clear P8 O8; have O8 := O8x; clear O8x
      have O9x := Lib.hid (Ty.own_turns O9.out T3 (fun k hk hk' => d2_ k hk' k (by simp [hk]) rfl)); clear O9; have O9 := O9x; clear O9x
      have O10x := Lib.hid (Ty.own_turns O10.out T3 (fun k hk hk' => d2_ k hk' k (by simp [hk]) rfl)); clear O10; have O10 := O10x; clear O10x
      have FO3 := Lib.hid (FO2.out.turn T3 (fun k hk => by simp [hk]))
      have TR3 := Lib.hid (TR2.out.trans (T3.mono (fun k hk => FOh.out.sub k (by simp [hk]))))
      have p3_9 : w3.cell? ⟨g, k * 11 + 9, none⟩ = some (.slice yz6 yn6 yy6) := FO3.out.cell (j := 9) rfl
      have u3_9 : w3.frozen? ⟨g, k * 11 + 9, none⟩ = false := FO3.out.free _
      have p3_10 : w3.cell? ⟨g, k * 11 + 10, none⟩ = some (.slice yz7 yn7 yy7) := FO3.out.cell (j := 10) rfl
      have u3_10 : w3.frozen? ⟨g, k * 11 + 10, none⟩ = false := FO3.out.free _
      go_wp2_with fail
      refine (laws_markDoorS_ yb6 _ x.2.2.2.2.2.2.1 _ _ O9.out n3_ (by omega) (by omega) W9.out).mono ?_
      rintro e w4 ⟨rfl, T4, P9⟩
      have O6x := Lib.hid (Ty.own_turns O6.out T4 (fun k hk hk' => d0_ k hk k (by simp [hk']) rfl)); clear O6; have O6 := O6x; clear O6x
      have O7x := Lib.hid (Ty.own_turns O7.out T4 (fun k hk hk' => d1_ k hk k (by simp [hk']) rfl)); clear O7; have O7 := O7x; clear O7x
      have O8x := Lib.hid (Ty.own_turns O8.out T4 (fun k hk hk' => d2_ k hk k (by simp [hk']) rfl)); clear O8; have O8 := O8x; clear O8x
      have O9x := Lib.hid P9; clear P9 O9; have O9 := O9x; clear O9x
      have O10x := Lib.hid (Ty.own_turns O10.out T4 (fun k hk hk' => d3_ k hk' k (by simp [hk]) rfl)); clear O10; have O10 := O10x; clear O10x
      have FO4 := Lib.hid (FO3.out.turn T4 (fun k hk => by simp [hk]))
      have TR4 := Lib.hid (TR3.out.trans (T4.mono (fun k hk => FOh.out.sub k (by simp [hk]))))
      have p4_10 : w4.cell? ⟨g, k * 11 + 10, none⟩ = some (.slice yz7 yn7 yy7) := FO4.out.cell (j := 10) rfl
      have u4_10 : w4.frozen? ⟨g, k * 11 + 10, none⟩ = false := FO4.out.free _
      go_wp2_with fail
      refine (laws_markIntS_ yd6 _ x.2.2.2.2.2.2.2 _ _ O10.out n4_ (by omega) (by omega) W10.out).mono ?_
      rintro e w5 ⟨rfl, T5, P10⟩
      have O6x := Lib.hid (Ty.own_turns O6.out T5 (fun k hk hk' => d0_ k hk k (by simp [hk']) rfl)); clear O6; have O6 := O6x; clear O6x
      have O7x := Lib.hid (Ty.own_turns O7.out T5 (fun k hk hk' => d1_ k hk k (by simp [hk']) rfl)); clear O7; have O7 := O7x; clear O7x
      have O8x := Lib.hid (Ty.own_turns O8.out T5 (fun k hk hk' => d2_ k hk k (by simp [hk']) rfl)); clear O8; have O8 := O8x; clear O8x
      have O9x := Lib.hid (Ty.own_turns O9.out T5 (fun k hk hk' => d3_ k hk k (by simp [hk']) rfl)); clear O9; have O9 := O9x; clear O9x
      have O10x := Lib.hid P10; clear P10 O10; have O10 := O10x; clear O10x
      have FO5 := Lib.hid (FO4.out.turn T5 (fun k hk => by simp [hk]))
      have TR5 := Lib.hid (TR4.out.trans (T5.mono (fun k hk => FOh.out.sub k (by simp [hk]))))
      go_wp2_with fail
      go_roundw
      case rel => exact ⟨k + 1, s + ceSlice x, by omega, by go_num, by congr 1; rw [hce]; omega, by omega, Lib.hid (by rw [wsum_next HX.out, HS.out]), Lib.hid TR5.out, Lib.hid (by rw [← mix_set meSlice ceSlice q HX.out, (show meSlice x (q + ((wsum ceSlice (l.take k) : Nat) : Int)) = ((q + ((s : Nat) : Int)), ((q + ((s : Nat) : Int) + 1) % 3 == 0), (((q + ((s : Nat) : Int) + 1 + 1), (q + ((s : Nat) : Int) + 1 + 1 + 1)), ((q + ((s : Nat) : Int) + 1 + 1 + 1 + 1), (q + ((s : Nat) : Int) + 1 + 1 + 1 + 1 + 1))), mkVecSS x.2.2.2.1 (q + ((s : Nat) : Int) + 1 + 1 + 1 + 1 + 1 + 1), mkCellS x.2.2.2.2.1 (q + ((s : Nat) : Int) + 1 + 1 + 1 + 1 + 1 + 1 + ((cVecSS x.2.2.2.1 : Nat) : Int)), mkWallS x.2.2.2.2.2.1 (q + ((s : Nat) : Int) + 1 + 1 + 1 + 1 + 1 + 1 + ((cVecSS x.2.2.2.1 : Nat) : Int) + ((cCellS x.2.2.2.2.1 : Nat) : Int)), mkDoorS x.2.2.2.2.2.2.1 (q + ((s : Nat) : Int) + 1 + 1 + 1 + 1 + 1 + 1 + ((cVecSS x.2.2.2.1 : Nat) : Int) + ((cCellS x.2.2.2.2.1 : Nat) : Int) + ((cWallS x.2.2.2.2.2.1 : Nat) : Int)), mkIntS x.2.2.2.2.2.2.2 (q + ((s : Nat) : Int) + 1 + 1 + 1 + 1 + 1 + 1 + ((cVecSS x.2.2.2.1 : Nat) : Int) + ((cCellS x.2.2.2.2.1 : Nat) : Int) + ((cWallS x.2.2.2.2.2.1 : Nat) : Int) + ((cDoorS x.2.2.2.2.2.2.1 : Nat) : Int))) by rw [← HS.out]; unfold meSlice; simp only [Int.natCast_add, Int.add_assoc, Int.natCast_one])]; exact Foc.close FO5.out ⟨[], ([] ++ ((([] ++ []) ++ ([] ++ [])) ++ (yb3 ++ (yb4 ++ (yb5 ++ (yb6 ++ yd6)))))), [.int .i64 (q + ((s : Nat) : Int))], [.bool ((q + ((s : Nat) : Int) + 1) % 3 == 0), .int .i64 (q + ((s : Nat) : Int) + 1 + 1), .int .i64 (q + ((s : Nat) : Int) + 1 + 1 + 1), .int .i64 (q + ((s : Nat) : Int) + 1 + 1 + 1 + 1), .int .i64 (q + ((s : Nat) : Int) + 1 + 1 + 1 + 1 + 1), .slice yz3 yn3 yy3, .slice yz4 yn4 yy4, .slice yz5 yn5 yy5, .slice yz6 yn6 yy6, .slice yz7 yn7 yy7], rfl, rfl, ⟨rfl, rfl, In64.small (n := (q + ((s : Nat) : Int))) (by omega)⟩, ⟨[], ((([] ++ []) ++ ([] ++ [])) ++ (yb3 ++ (yb4 ++ (yb5 ++ (yb6 ++ yd6))))), [.bool ((q + ((s : Nat) : Int) + 1) % 3 == 0)], [.int .i64 (q + ((s : Nat) : Int) + 1 + 1), .int .i64 (q + ((s : Nat) : Int) + 1 + 1 + 1), .int .i64 (q + ((s : Nat) : Int) + 1 + 1 + 1 + 1), .int .i64 (q + ((s : Nat) : Int) + 1 + 1 + 1 + 1 + 1), .slice yz3 yn3 yy3, .slice yz4 yn4 yy4, .slice yz5 yn5 yy5, .slice yz6 yn6 yy6, .slice yz7 yn7 yy7], rfl, rfl, ⟨rfl, rfl⟩, ⟨(([] ++ []) ++ ([] ++ [])), (yb3 ++ (yb4 ++ (yb5 ++ (yb6 ++ yd6)))), [.int .i64 (q + ((s : Nat) : Int) + 1 + 1), .int .i64 (q + ((s : Nat) : Int) + 1 + 1 + 1), .int .i64 (q + ((s : Nat) : Int) + 1 + 1 + 1 + 1), .int .i64 (q + ((s : Nat) : Int) + 1 + 1 + 1 + 1 + 1)], [.slice yz3 yn3 yy3, .slice yz4 yn4 yy4, .slice yz5 yn5 yy5, .slice yz6 yn6 yy6, .slice yz7 yn7 yy7], rfl, rfl, ⟨([] ++ []), ([] ++ []), [.int .i64 (q + ((s : Nat) : Int) + 1 + 1), .int .i64 (q + ((s : Nat) : Int) + 1 + 1 + 1)], [.int .i64 (q + ((s : Nat) : Int) + 1 + 1 + 1 + 1), .int .i64 (q + ((s : Nat) : Int) + 1 + 1 + 1 + 1 + 1)], rfl, rfl, ⟨[], [], [.int .i64 (q + ((s : Nat) : Int) + 1 + 1)], [.int .i64 (q + ((s : Nat) : Int) + 1 + 1 + 1)], rfl, rfl, ⟨rfl, rfl, In64.small (n := (q + ((s : Nat) : Int) + 1 + 1)) (by omega)⟩, ⟨rfl, rfl, In64.small (n := (q + ((s : Nat) : Int) + 1 + 1 + 1)) (by omega)⟩⟩, ⟨[], [], [.int .i64 (q + ((s : Nat) : Int) + 1 + 1 + 1 + 1)], [.int .i64 (q + ((s : Nat) : Int) + 1 + 1 + 1 + 1 + 1)], rfl, rfl, ⟨rfl, rfl, In64.small (n := (q + ((s : Nat) : Int) + 1 + 1 + 1 + 1)) (by omega)⟩, ⟨rfl, rfl, In64.small (n := (q + ((s : Nat) : Int) + 1 + 1 + 1 + 1 + 1)) (by omega)⟩⟩⟩, ⟨yb3, (yb4 ++ (yb5 ++ (yb6 ++ yd6))), [.slice yz3 yn3 yy3], [.slice yz4 yn4 yy4, .slice yz5 yn5 yy5, .slice yz6 yn6 yy6, .slice yz7 yn7 yy7], rfl, rfl, (mk_eq O6.out (by first | rfl | simp only [Int.natCast_add, Int.add_assoc])), ⟨yb4, (yb5 ++ (yb6 ++ yd6)), [.slice yz4 yn4 yy4], [.slice yz5 yn5 yy5, .slice yz6 yn6 yy6, .slice yz7 yn7 yy7], rfl, rfl, (mk_eq O7.out (by first | rfl | simp only [Int.natCast_add, Int.add_assoc])), ⟨yb5, (yb6 ++ yd6), [.slice yz5 yn5 yy5], [.slice yz6 yn6 yy6, .slice yz7 yn7 yy7], rfl, rfl, (mk_eq O8.out (by first | rfl | simp only [Int.natCast_add, Int.add_assoc])), ⟨yb6, yd6, [.slice yz6 yn6 yy6], [.slice yz7 yn7 yy7], rfl, rfl, (mk_eq O9.out (by first | rfl | simp only [Int.natCast_add, Int.add_assoc])), (mk_eq O10.out (by first | rfl | simp only [Int.natCast_add, Int.add_assoc]))⟩⟩⟩⟩⟩⟩⟩)⟩
      case measure => simp [intOf]; omega
    · go_wp2_with fail
      go_ret
      obtain rfl : k = n := by omega
      have e1 : s = M := by have h2 := HS.out; rw [HN.out, List.take_length] at h2; rw [h2, HM.out]; rfl
      refine ⟨ret_int (by rw [e1]), HT.out, ?_⟩
      have h3 := HO.out
      rw [HN.out, mix_all] at h3
      rw [HN.out]
      exact h3
end Go.Proofs.Ytbbibfeblaocfaa
