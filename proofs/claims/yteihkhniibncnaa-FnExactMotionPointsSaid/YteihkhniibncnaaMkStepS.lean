/- markStepS, heldStepS: marks in what a value owns. -/
import Derived.Test.YteihkhniibncnaaGMk
import Derived.Deep.RegionHeld3
namespace Go.Proofs.Yteihkhniibncnaa
open Go.RowKit
set_option maxHeartbeats 6400000 in
theorem laws_markStepS_ (bs : List Nat) (v : Value) (l : List (QStep)) (q : Int) (w : World) (hv : tStepS.own bs w [v] l) (hnd : bs.Nodup) (h0 : 0 ≤ q) (h1 : q + (cStepS l : Nat) ≤ 1000000000) (hl : wStepS l ≤ 1048576) :
    Calls Try.prog 29 #[v, .int .i64 q] w fun e w' => e = .returned (.int .i64 (q + (cStepS l : Nat))) ∧ Turns bs w w' ∧ tStepS.own bs w' [v] (mkStepS l q) := by
  obtain ⟨ao, cap, rfl⟩ := sl_len (Ty.rd_at ((tSlice _).own_rd hv))
  have HV := Lib.hid hv; have HND := Lib.hid hnd; clear hv hnd
  have HL := Lib.hid hl; clear hl
  obtain ⟨M, hM⟩ : ∃ M, M = cStepS l := ⟨_, rfl⟩
  have HM := Lib.hid hM
  rw [← hM] at h1 ⊢
  clear hM
  obtain ⟨n, hn⟩ : ∃ n, n = l.length := ⟨_, rfl⟩
  have hn1 : n ≤ 1048576 := by have := HL.out; unfold wStepS at this; omega
  rw [← hn] at HV ⊢
  have HN := Lib.hid hn; clear hn
  go_enter Try.func29, Try.ntmps29
  go_wp2_with fail
  go_loopw [1, 5] (fun c i wr => ∃ k s : Nat, k ≤ n ∧ i = .int .i64 k ∧ c = .int .i64 (q + s) ∧ s ≤ M ∧ Hid (s = wsum ceStep (l.take k)) ∧ Hid (Turns bs w wr) ∧ Hid (tStepS.own bs wr [.slice ao n cap] (mix meStep ceStep l q k))) (fun _ i _ => n - (intOf i).toNat)
  case atStart => exact ⟨0, 0, Nat.zero_le _, rfl, by simp, Nat.zero_le _, Lib.hid rfl, Lib.hid (Turns.refl _ _), Lib.hid (by rw [mix_zero]; exact HV.out)⟩
  case round =>
    clear HV
    obtain ⟨k, s, hk, rfl, rfl, hsM, HS, HT, HO⟩ := hrel
    by_cases hlt : k < n
    · obtain ⟨x, hx⟩ : ∃ x, l[k]? = some x := ⟨_, List.getElem?_eq_getElem (by rw [← HN.out]; exact hlt)⟩
      have hx_ := hx
      have hse : s + ceStep x ≤ M := by
        have h2 := wsum_next (f := ceStep) hx
        have h3 := wsum_take ceStep l (k + 1)
        have h4 := HM.out
        have h5 := HS.out
        unfold cStepS at h4
        omega
      have HX := Lib.hid hx; clear hx hx_
      obtain ⟨g, bi, c, cap', hv', FO, ho, hnb⟩ := Foc.start HO.out HND.out (mix_get meStep ceStep q HX.out)
      simp only [Value.slice.injEq] at hv'
      obtain ⟨rfl, -, rfl⟩ := hv'
      clear HO
      obtain ⟨yb0, yd0, yc0, ye0, rfl, rfl, yf0, yg0⟩ := ho
      obtain ⟨rfl, rfl, yo0⟩ := yf0
      obtain ⟨y1_b0, y1_d0, y1_c0, y1_e0, rfl, rfl, y1_f0, y1_g0⟩ := yg0
      obtain ⟨y1_0_b0, y1_0_d0, y1_0_c0, y1_0_e0, rfl, rfl, y1_0_f0, y1_0_g0⟩ := y1_f0
      obtain ⟨y1_0_0_b0, y1_0_0_d0, y1_0_0_c0, y1_0_0_e0, rfl, rfl, y1_0_0_f0, y1_0_0_g0⟩ := y1_0_f0
      obtain ⟨rfl, rfl⟩ := y1_0_0_f0
      obtain ⟨y1_0_0_z1, y1_0_0_n1, y1_0_0_y1, rfl⟩ := sh_slice (Ty.rd_at ((tSlice _).own_rd y1_0_0_g0))
      obtain ⟨y1_0_z1, y1_0_n1, y1_0_y1, rfl⟩ := sh_slice (Ty.rd_at ((tSlice _).own_rd y1_0_g0))
      obtain ⟨y1_1_b0, y1_1_d0, y1_1_c0, y1_1_e0, rfl, rfl, y1_1_f0, y1_1_g0⟩ := y1_g0
      obtain ⟨y1_1_0_b0, y1_1_0_d0, y1_1_0_c0, y1_1_0_e0, rfl, rfl, y1_1_0_f0, y1_1_0_g0⟩ := y1_1_f0
      obtain ⟨rfl, rfl⟩ := y1_1_0_f0
      obtain ⟨y1_1_0_z1, y1_1_0_n1, y1_1_0_y1, rfl⟩ := sh_slice (Ty.rd_at ((tSlice _).own_rd y1_1_0_g0))
      obtain ⟨y1_1_z1, y1_1_n1, y1_1_y1, rfl⟩ := sh_slice (Ty.rd_at ((tSlice _).own_rd y1_1_g0))
      have hnb_ : (y1_0_0_d0 ++ (y1_0_d0 ++ (y1_1_0_d0 ++ (y1_1_d0)))).Nodup := by simpa [List.append_assoc] using hnb
      simp only [List.nodup_append] at hnb_
      obtain ⟨n0_, ⟨n1_, ⟨n2_, n3_, d2_⟩, d1_⟩, d0_⟩ := hnb_
      have hgm := FO.mem; have hg0 := FO.hg
      have gn0 : g ∉ y1_0_0_d0 := fun h => FO.out (by simp [h])
      have gn1 : g ∉ y1_0_d0 := fun h => FO.out (by simp [h])
      have gn2 : g ∉ y1_1_0_d0 := fun h => FO.out (by simp [h])
      have gn3 : g ∉ y1_1_d0 := fun h => FO.out (by simp [h])
      have O2 := Lib.hid y1_0_0_g0; clear y1_0_0_g0
      have W2 : Hid (wIntS x.2.1.1.2 ≤ 1048576) := Lib.hid (by have := wsum_el (f := wStep) HX.out; have := HL.out; unfold wStepS at this; unfold wStep wPoint wRat wBigInt at *; omega)
      have O3 := Lib.hid y1_0_g0; clear y1_0_g0
      have W3 : Hid (wIntS x.2.1.2 ≤ 1048576) := Lib.hid (by have := wsum_el (f := wStep) HX.out; have := HL.out; unfold wStepS at this; unfold wStep wPoint wRat wBigInt at *; omega)
      have O5 := Lib.hid y1_1_0_g0; clear y1_1_0_g0
      have W5 : Hid (wIntS x.2.2.1.2 ≤ 1048576) := Lib.hid (by have := wsum_el (f := wStep) HX.out; have := HL.out; unfold wStepS at this; unfold wStep wPoint wRat wBigInt at *; omega)
      have O6 := Lib.hid y1_1_g0; clear y1_1_g0
      have W6 : Hid (wIntS x.2.2.2 ≤ 1048576) := Lib.hid (by have := wsum_el (f := wStep) HX.out; have := HL.out; unfold wStepS at this; unfold wStep wPoint wRat wBigInt at *; omega)
      have hce : ceStep x = 1 + 1 + cIntS x.2.1.1.2 + cIntS x.2.1.2 + 1 + cIntS x.2.2.1.2 + cIntS x.2.2.2 := rfl
      rw [hce] at hse
      have p0 : wr.cell? ⟨g, k * 7, none⟩ = some (.int .i64 x.1) := FO.cell (j := 0) rfl
      have u0 : wr.frozen? ⟨g, k * 7, none⟩ = false := FO.free _
      have p1 : wr.cell? ⟨g, k * 7 + 1, none⟩ = some (.bool x.2.1.1.1) := FO.cell (j := 1) rfl
      have u1 : wr.frozen? ⟨g, k * 7 + 1, none⟩ = false := FO.free _
      have p2 : wr.cell? ⟨g, k * 7 + 2, none⟩ = some (.slice y1_0_0_z1 y1_0_0_n1 y1_0_0_y1) := FO.cell (j := 2) rfl
      have u2 : wr.frozen? ⟨g, k * 7 + 2, none⟩ = false := FO.free _
      have p3 : wr.cell? ⟨g, k * 7 + 3, none⟩ = some (.slice y1_0_z1 y1_0_n1 y1_0_y1) := FO.cell (j := 3) rfl
      have u3 : wr.frozen? ⟨g, k * 7 + 3, none⟩ = false := FO.free _
      have p4 : wr.cell? ⟨g, k * 7 + 4, none⟩ = some (.bool x.2.2.1.1) := FO.cell (j := 4) rfl
      have u4 : wr.frozen? ⟨g, k * 7 + 4, none⟩ = false := FO.free _
      have p5 : wr.cell? ⟨g, k * 7 + 5, none⟩ = some (.slice y1_1_0_z1 y1_1_0_n1 y1_1_0_y1) := FO.cell (j := 5) rfl
      have u5 : wr.frozen? ⟨g, k * 7 + 5, none⟩ = false := FO.free _
      have p6 : wr.cell? ⟨g, k * 7 + 6, none⟩ = some (.slice y1_1_z1 y1_1_n1 y1_1_y1) := FO.cell (j := 6) rfl
      have u6 : wr.frozen? ⟨g, k * 7 + 6, none⟩ = false := FO.free _
      have FOh := Lib.hid FO; clear FO
      go_wp2_with fail
      refine (laws_markIntS_ y1_0_0_d0 _ x.2.1.1.2 _ _ (Ty.own_turns O2.out (((Turns.refl [g] _).setCell (.inl (by simp)) _).setCell (.inl (by simp)) _) (fun k hk hk' => by simp at hk'; subst hk'; exact gn0 hk)) n0_ (by omega) (by omega) W2.out).mono ?_
      rintro e w1 ⟨rfl, T1, P2⟩
      have O2x := Lib.hid P2; clear P2 O2; have O2 := O2x; clear O2x
      have O3x := Lib.hid (Ty.own_turns (Ty.own_turns O3.out (((Turns.refl [g] _).setCell (.inl (by simp)) _).setCell (.inl (by simp)) _) (fun k hk hk' => by simp at hk'; subst hk'; exact gn1 hk)) T1 (fun k hk hk' => d0_ k hk' k (by simp [hk]) rfl)); clear O3; have O3 := O3x; clear O3x
      have O5x := Lib.hid (Ty.own_turns (Ty.own_turns O5.out (((Turns.refl [g] _).setCell (.inl (by simp)) _).setCell (.inl (by simp)) _) (fun k hk hk' => by simp at hk'; subst hk'; exact gn2 hk)) T1 (fun k hk hk' => d0_ k hk' k (by simp [hk]) rfl)); clear O5; have O5 := O5x; clear O5x
      have O6x := Lib.hid (Ty.own_turns (Ty.own_turns O6.out (((Turns.refl [g] _).setCell (.inl (by simp)) _).setCell (.inl (by simp)) _) (fun k hk hk' => by simp at hk'; subst hk'; exact gn3 hk)) T1 (fun k hk hk' => d0_ k hk' k (by simp [hk]) rfl)); clear O6; have O6 := O6x; clear O6x
      have FO1 := Lib.hid (((FOh.out.setN (j := 0) (o := k * 7) (by decide) rfl (.int .i64 (q + ((s : Nat) : Int)))).setN (j := 1) (o := k * 7 + 1) (by decide) rfl (.bool ((q + ((s : Nat) : Int) + 1) % 3 == 0))).turn T1 (fun k hk => by simp [hk]))
      have TR1 := Lib.hid (((HT.out.setCell (.inl hgm) _).setCell (.inl hgm) _).trans (T1.mono (fun k hk => FOh.out.sub k (by simp [hk]))))
      have p1_3 : w1.cell? ⟨g, k * 7 + 3, none⟩ = some (.slice y1_0_z1 y1_0_n1 y1_0_y1) := FO1.out.cell (j := 3) rfl
      have u1_3 : w1.frozen? ⟨g, k * 7 + 3, none⟩ = false := FO1.out.free _
      have p1_4 : w1.cell? ⟨g, k * 7 + 4, none⟩ = some (.bool x.2.2.1.1) := FO1.out.cell (j := 4) rfl
      have u1_4 : w1.frozen? ⟨g, k * 7 + 4, none⟩ = false := FO1.out.free _
      have p1_5 : w1.cell? ⟨g, k * 7 + 5, none⟩ = some (.slice y1_1_0_z1 y1_1_0_n1 y1_1_0_y1) := FO1.out.cell (j := 5) rfl
      have u1_5 : w1.frozen? ⟨g, k * 7 + 5, none⟩ = false := FO1.out.free _
      have p1_6 : w1.cell? ⟨g, k * 7 + 6, none⟩ = some (.slice y1_1_z1 y1_1_n1 y1_1_y1) := FO1.out.cell (j := 6) rfl
      have u1_6 : w1.frozen? ⟨g, k * 7 + 6, none⟩ = false := FO1.out.free _
      go_wp2_with fail
      refine (laws_markIntS_ y1_0_d0 _ x.2.1.2 _ _ O3.out n1_ (by omega) (by omega) W3.out).mono ?_
      rintro e w2 ⟨rfl, T2, P3⟩
      have O2x := Lib.hid (Ty.own_turns O2.out T2 (fun k hk hk' => d0_ k hk k (by simp [hk']) rfl)); clear O2; have O2 := O2x; clear O2x
      have O3x := Lib.hid P3; clear P3 O3; have O3 := O3x; clear O3x
      have O5x := Lib.hid (Ty.own_turns O5.out T2 (fun k hk hk' => d1_ k hk' k (by simp [hk]) rfl)); clear O5; have O5 := O5x; clear O5x
      have O6x := Lib.hid (Ty.own_turns O6.out T2 (fun k hk hk' => d1_ k hk' k (by simp [hk]) rfl)); clear O6; have O6 := O6x; clear O6x
      have FO2 := Lib.hid (FO1.out.turn T2 (fun k hk => by simp [hk]))
      have TR2 := Lib.hid (TR1.out.trans (T2.mono (fun k hk => FOh.out.sub k (by simp [hk]))))
      have p2_4 : w2.cell? ⟨g, k * 7 + 4, none⟩ = some (.bool x.2.2.1.1) := FO2.out.cell (j := 4) rfl
      have u2_4 : w2.frozen? ⟨g, k * 7 + 4, none⟩ = false := FO2.out.free _
      have p2_5 : w2.cell? ⟨g, k * 7 + 5, none⟩ = some (.slice y1_1_0_z1 y1_1_0_n1 y1_1_0_y1) := FO2.out.cell (j := 5) rfl
      have u2_5 : w2.frozen? ⟨g, k * 7 + 5, none⟩ = false := FO2.out.free _
      have p2_6 : w2.cell? ⟨g, k * 7 + 6, none⟩ = some (.slice y1_1_z1 y1_1_n1 y1_1_y1) := FO2.out.cell (j := 6) rfl
      have u2_6 : w2.frozen? ⟨g, k * 7 + 6, none⟩ = false := FO2.out.free _
      go_wp2_with fail
      refine (laws_markIntS_ y1_1_0_d0 _ x.2.2.1.2 _ _ (Ty.own_turns O5.out ((Turns.refl [g] _).setCell (.inl (by simp)) _) (fun k hk hk' => by simp at hk'; subst hk'; exact gn2 hk)) n2_ (by omega) (by omega) W5.out).mono ?_
      rintro e w3 ⟨rfl, T3, P5⟩
      have O2x := Lib.hid (Ty.own_turns (Ty.own_turns O2.out ((Turns.refl [g] _).setCell (.inl (by simp)) _) (fun k hk hk' => by simp at hk'; subst hk'; exact gn0 hk)) T3 (fun k hk hk' => d0_ k hk k (by simp [hk']) rfl)); clear O2; have O2 := O2x; clear O2x
      have O3x := Lib.hid (Ty.own_turns (Ty.own_turns O3.out ((Turns.refl [g] _).setCell (.inl (by simp)) _) (fun k hk hk' => by simp at hk'; subst hk'; exact gn1 hk)) T3 (fun k hk hk' => d1_ k hk k (by simp [hk']) rfl)); clear O3; have O3 := O3x; clear O3x
      have O5x := Lib.hid P5; clear P5 O5; have O5 := O5x; clear O5x
      have O6x := Lib.hid (Ty.own_turns (Ty.own_turns O6.out ((Turns.refl [g] _).setCell (.inl (by simp)) _) (fun k hk hk' => by simp at hk'; subst hk'; exact gn3 hk)) T3 (fun k hk hk' => d2_ k hk' k (by simp [hk]) rfl)); clear O6; have O6 := O6x; clear O6x
      have FO3 := Lib.hid ((FO2.out.setN (j := 4) (o := k * 7 + 1 + 3) (by decide) rfl (.bool ((q + ((s : Nat) : Int) + 1 + 1 + ((cIntS x.2.1.1.2 : Nat) : Int) + ((cIntS x.2.1.2 : Nat) : Int)) % 3 == 0))).turn T3 (fun k hk => by simp [hk]))
      have TR3 := Lib.hid ((TR2.out.setCell (.inl hgm) _).trans (T3.mono (fun k hk => FOh.out.sub k (by simp [hk]))))
      have p3_6 : w3.cell? ⟨g, k * 7 + 6, none⟩ = some (.slice y1_1_z1 y1_1_n1 y1_1_y1) := FO3.out.cell (j := 6) rfl
      have u3_6 : w3.frozen? ⟨g, k * 7 + 6, none⟩ = false := FO3.out.free _
      go_wp2_with fail
      refine (laws_markIntS_ y1_1_d0 _ x.2.2.2 _ _ O6.out n3_ (by omega) (by omega) W6.out).mono ?_
      rintro e w4 ⟨rfl, T4, P6⟩
      have O2x := Lib.hid (Ty.own_turns O2.out T4 (fun k hk hk' => d0_ k hk k (by simp [hk']) rfl)); clear O2; have O2 := O2x; clear O2x
      have O3x := Lib.hid (Ty.own_turns O3.out T4 (fun k hk hk' => d1_ k hk k (by simp [hk']) rfl)); clear O3; have O3 := O3x; clear O3x
      have O5x := Lib.hid (Ty.own_turns O5.out T4 (fun k hk hk' => d2_ k hk k (by simp [hk']) rfl)); clear O5; have O5 := O5x; clear O5x
      have O6x := Lib.hid P6; clear P6 O6; have O6 := O6x; clear O6x
      have FO4 := Lib.hid (FO3.out.turn T4 (fun k hk => by simp [hk]))
      have TR4 := Lib.hid (TR3.out.trans (T4.mono (fun k hk => FOh.out.sub k (by simp [hk]))))
      go_wp2_with fail
      go_roundw
      case rel => exact ⟨k + 1, s + ceStep x, by omega, by go_num, by congr 1; rw [hce]; omega, by omega, Lib.hid (by rw [wsum_next HX.out, HS.out]), Lib.hid TR4.out, Lib.hid (by rw [← mix_set meStep ceStep q HX.out, (show meStep x (q + ((wsum ceStep (l.take k) : Nat) : Int)) = ((q + ((s : Nat) : Int)), (((((q + ((s : Nat) : Int) + 1) % 3 == 0), mkIntS x.2.1.1.2 (q + ((s : Nat) : Int) + 1 + 1)), mkIntS x.2.1.2 (q + ((s : Nat) : Int) + 1 + 1 + ((cIntS x.2.1.1.2 : Nat) : Int))), ((((q + ((s : Nat) : Int) + 1 + 1 + ((cIntS x.2.1.1.2 : Nat) : Int) + ((cIntS x.2.1.2 : Nat) : Int)) % 3 == 0), mkIntS x.2.2.1.2 (q + ((s : Nat) : Int) + 1 + 1 + ((cIntS x.2.1.1.2 : Nat) : Int) + ((cIntS x.2.1.2 : Nat) : Int) + 1)), mkIntS x.2.2.2 (q + ((s : Nat) : Int) + 1 + 1 + ((cIntS x.2.1.1.2 : Nat) : Int) + ((cIntS x.2.1.2 : Nat) : Int) + 1 + ((cIntS x.2.2.1.2 : Nat) : Int))))) by rw [← HS.out]; unfold meStep; simp only [Int.natCast_add, Int.add_assoc, Int.natCast_one])]; exact Foc.close FO4.out ⟨[], ((([] ++ y1_0_0_d0) ++ y1_0_d0) ++ (([] ++ y1_1_0_d0) ++ y1_1_d0)), [.int .i64 (q + ((s : Nat) : Int))], [.bool ((q + ((s : Nat) : Int) + 1) % 3 == 0), .slice y1_0_0_z1 y1_0_0_n1 y1_0_0_y1, .slice y1_0_z1 y1_0_n1 y1_0_y1, .bool ((q + ((s : Nat) : Int) + 1 + 1 + ((cIntS x.2.1.1.2 : Nat) : Int) + ((cIntS x.2.1.2 : Nat) : Int)) % 3 == 0), .slice y1_1_0_z1 y1_1_0_n1 y1_1_0_y1, .slice y1_1_z1 y1_1_n1 y1_1_y1], rfl, rfl, ⟨rfl, rfl, In64.small (n := (q + ((s : Nat) : Int))) (by omega)⟩, ⟨(([] ++ y1_0_0_d0) ++ y1_0_d0), (([] ++ y1_1_0_d0) ++ y1_1_d0), [.bool ((q + ((s : Nat) : Int) + 1) % 3 == 0), .slice y1_0_0_z1 y1_0_0_n1 y1_0_0_y1, .slice y1_0_z1 y1_0_n1 y1_0_y1], [.bool ((q + ((s : Nat) : Int) + 1 + 1 + ((cIntS x.2.1.1.2 : Nat) : Int) + ((cIntS x.2.1.2 : Nat) : Int)) % 3 == 0), .slice y1_1_0_z1 y1_1_0_n1 y1_1_0_y1, .slice y1_1_z1 y1_1_n1 y1_1_y1], rfl, rfl, ⟨([] ++ y1_0_0_d0), y1_0_d0, [.bool ((q + ((s : Nat) : Int) + 1) % 3 == 0), .slice y1_0_0_z1 y1_0_0_n1 y1_0_0_y1], [.slice y1_0_z1 y1_0_n1 y1_0_y1], rfl, rfl, ⟨[], y1_0_0_d0, [.bool ((q + ((s : Nat) : Int) + 1) % 3 == 0)], [.slice y1_0_0_z1 y1_0_0_n1 y1_0_0_y1], rfl, rfl, ⟨rfl, rfl⟩, (mk_eq O2.out (by first | rfl | simp only [Int.natCast_add, Int.add_assoc]))⟩, (mk_eq O3.out (by first | rfl | simp only [Int.natCast_add, Int.add_assoc]))⟩, ⟨([] ++ y1_1_0_d0), y1_1_d0, [.bool ((q + ((s : Nat) : Int) + 1 + 1 + ((cIntS x.2.1.1.2 : Nat) : Int) + ((cIntS x.2.1.2 : Nat) : Int)) % 3 == 0), .slice y1_1_0_z1 y1_1_0_n1 y1_1_0_y1], [.slice y1_1_z1 y1_1_n1 y1_1_y1], rfl, rfl, ⟨[], y1_1_0_d0, [.bool ((q + ((s : Nat) : Int) + 1 + 1 + ((cIntS x.2.1.1.2 : Nat) : Int) + ((cIntS x.2.1.2 : Nat) : Int)) % 3 == 0)], [.slice y1_1_0_z1 y1_1_0_n1 y1_1_0_y1], rfl, rfl, ⟨rfl, rfl⟩, (mk_eq O5.out (by first | rfl | simp only [Int.natCast_add, Int.add_assoc]))⟩, (mk_eq O6.out (by first | rfl | simp only [Int.natCast_add, Int.add_assoc]))⟩⟩⟩)⟩
      case measure => simp [intOf]; omega
    · go_wp2_with fail
      go_ret
      obtain rfl : k = n := by omega
      have e1 : s = M := by have h2 := HS.out; rw [HN.out, List.take_length] at h2; rw [h2, HM.out]; rfl
      refine ⟨ret_int (by rw [e1]), HT.out, ?_⟩
      have h3 := HO.out
      rw [HN.out, mix_all] at h3
      rw [HN.out]
      exact h3
end Go.Proofs.Yteihkhniibncnaa
