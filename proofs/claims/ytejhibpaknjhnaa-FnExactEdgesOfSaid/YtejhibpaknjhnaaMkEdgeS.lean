/- markEdgeS, heldEdgeS: marks in what a value owns. -/
import Derived.Test.YtejhibpaknjhnaaMkB
import Derived.Deep.RegionHeld3
namespace Go.Proofs.Ytejhibpaknjhnaa
open Go.RowKit
set_option maxHeartbeats 6400000 in
theorem laws_markEdgeS_ (bs : List Nat) (v : Value) (l : List (QE)) (q : Int) (w : World) (hv : tEdgeS.own bs w [v] l) (hnd : bs.Nodup) (h0 : 0 ≤ q) (h1 : q + (cEdgeS l : Nat) ≤ 1000000000) (hl : wEdgeS l ≤ 1048576) :
    Calls Try.prog 59 #[v, .int .i64 q] w fun e w' => e = .returned (.int .i64 (q + (cEdgeS l : Nat))) ∧ Turns bs w w' ∧ tEdgeS.own bs w' [v] (mkEdgeS l q) := by
  obtain ⟨ao, cap, rfl⟩ := sl_len (Ty.rd_at ((tSlice _).own_rd hv))
  have HV := Lib.hid hv; have HND := Lib.hid hnd; clear hv hnd
  have HL := Lib.hid hl; clear hl
  obtain ⟨M, hM⟩ : ∃ M, M = cEdgeS l := ⟨_, rfl⟩
  have HM := Lib.hid hM
  rw [← hM] at h1 ⊢
  clear hM
  obtain ⟨n, hn⟩ : ∃ n, n = l.length := ⟨_, rfl⟩
  have hn1 : n ≤ 1048576 := by have := HL.out; unfold wEdgeS at this; omega
  rw [← hn] at HV ⊢
  have HN := Lib.hid hn; clear hn
  go_enter Try.func59, Try.ntmps59
  go_wp2_with fail
  go_loopw [1, 5] (fun c i wr => ∃ k s : Nat, k ≤ n ∧ i = .int .i64 k ∧ c = .int .i64 (q + s) ∧ s ≤ M ∧ Hid (s = wsum ceEdge (l.take k)) ∧ Hid (Turns bs w wr) ∧ Hid (tEdgeS.own bs wr [.slice ao n cap] (mix meEdge ceEdge l q k))) (fun _ i _ => n - (intOf i).toNat)
  case atStart => exact ⟨0, 0, Nat.zero_le _, rfl, by simp, Nat.zero_le _, Lib.hid rfl, Lib.hid (Turns.refl _ _), Lib.hid (by rw [mix_zero]; exact HV.out)⟩
  case round =>
    clear HV
    obtain ⟨k, s, hk, rfl, rfl, hsM, HS, HT, HO⟩ := hrel
    by_cases hlt : k < n
    · obtain ⟨x, hx⟩ : ∃ x, l[k]? = some x := ⟨_, List.getElem?_eq_getElem (by rw [← HN.out]; exact hlt)⟩
      have hx_ := hx
      have hse : s + ceEdge x ≤ M := by
        have h2 := wsum_next (f := ceEdge) hx
        have h3 := wsum_take ceEdge l (k + 1)
        have h4 := HM.out
        have h5 := HS.out
        unfold cEdgeS at h4
        omega
      have HX := Lib.hid hx; clear hx hx_
      obtain ⟨g, bi, c, cap', hv', FO, ho, hnb⟩ := Foc.start HO.out HND.out (mix_get meEdge ceEdge q HX.out)
      simp only [Value.slice.injEq] at hv'
      obtain ⟨rfl, -, rfl⟩ := hv'
      clear HO
      obtain ⟨yb0, yd0, yc0, ye0, rfl, rfl, yf0, yg0⟩ := ho
      obtain ⟨yb1, yd1, yc1, ye1, rfl, rfl, yf1, yg1⟩ := yg0
      obtain ⟨yb2, yd2, yc2, ye2, rfl, rfl, yf2, yg2⟩ := yg1
      obtain ⟨y0_b0, y0_d0, y0_c0, y0_e0, rfl, rfl, y0_f0, y0_g0⟩ := yf0
      obtain ⟨rfl, rfl, y0_o0⟩ := y0_f0
      obtain ⟨rfl, rfl, y0_o1⟩ := y0_g0
      obtain ⟨y1_b0, y1_d0, y1_c0, y1_e0, rfl, rfl, y1_f0, y1_g0⟩ := yf1
      obtain ⟨rfl, rfl, y1_o0⟩ := y1_f0
      obtain ⟨rfl, rfl, y1_o1⟩ := y1_g0
      obtain ⟨rfl, rfl, yo2⟩ := yf2
      obtain ⟨rfl, rfl⟩ := yg2
      clear hnb
      have hgm := FO.mem; have hg0 := FO.hg
      have hce : ceEdge x = 1 + 1 + 1 + 1 + 1 + 1 := rfl
      rw [hce] at hse
      have p0 : wr.cell? ⟨g, k * 6, none⟩ = some (.int .i64 x.1.1) := FO.cell (j := 0) rfl
      have u0 : wr.frozen? ⟨g, k * 6, none⟩ = false := FO.free _
      have p1 : wr.cell? ⟨g, k * 6 + 1, none⟩ = some (.int .i64 x.1.2) := FO.cell (j := 1) rfl
      have u1 : wr.frozen? ⟨g, k * 6 + 1, none⟩ = false := FO.free _
      have p2 : wr.cell? ⟨g, k * 6 + 2, none⟩ = some (.int .i64 x.2.1.1) := FO.cell (j := 2) rfl
      have u2 : wr.frozen? ⟨g, k * 6 + 2, none⟩ = false := FO.free _
      have p3 : wr.cell? ⟨g, k * 6 + 3, none⟩ = some (.int .i64 x.2.1.2) := FO.cell (j := 3) rfl
      have u3 : wr.frozen? ⟨g, k * 6 + 3, none⟩ = false := FO.free _
      have p4 : wr.cell? ⟨g, k * 6 + 4, none⟩ = some (.int .i64 x.2.2.1) := FO.cell (j := 4) rfl
      have u4 : wr.frozen? ⟨g, k * 6 + 4, none⟩ = false := FO.free _
      have p5 : wr.cell? ⟨g, k * 6 + 5, none⟩ = some (.bool x.2.2.2) := FO.cell (j := 5) rfl
      have u5 : wr.frozen? ⟨g, k * 6 + 5, none⟩ = false := FO.free _
      have FOh := Lib.hid FO; clear FO
      go_wp2_with fail
      go_roundw
      case rel => exact ⟨k + 1, s + ceEdge x, by omega, by go_num, by congr 1; rw [hce]; omega, by omega, Lib.hid (by rw [wsum_next HX.out, HS.out]), Lib.hid ((((((HT.out.setCell (.inl hgm) _).setCell (.inl hgm) _).setCell (.inl hgm) _).setCell (.inl hgm) _).setCell (.inl hgm) _).setCell (.inl hgm) _), Lib.hid (by rw [← mix_set meEdge ceEdge q HX.out, (show meEdge x (q + ((wsum ceEdge (l.take k) : Nat) : Int)) = (((q + ((s : Nat) : Int)), (q + ((s : Nat) : Int) + 1)), ((q + ((s : Nat) : Int) + 1 + 1), (q + ((s : Nat) : Int) + 1 + 1 + 1)), (q + ((s : Nat) : Int) + 1 + 1 + 1 + 1), ((q + ((s : Nat) : Int) + 1 + 1 + 1 + 1 + 1) % 3 == 0)) by rw [← HS.out]; unfold meEdge; simp only [Int.natCast_add, Int.add_assoc, Int.natCast_one])]; exact Foc.close ((((((FOh.out.setN (j := 0) (o := k * 6) (by decide) rfl (.int .i64 (q + ((s : Nat) : Int)))).setN (j := 1) (o := k * 6 + 1) (by decide) rfl (.int .i64 (q + ((s : Nat) : Int) + 1))).setN (j := 2) (o := k * 6 + 2) (by decide) rfl (.int .i64 (q + ((s : Nat) : Int) + 1 + 1))).setN (j := 3) (o := k * 6 + 2 + 1) (by decide) rfl (.int .i64 (q + ((s : Nat) : Int) + 1 + 1 + 1))).setN (j := 4) (o := k * 6 + 4) (by decide) rfl (.int .i64 (q + ((s : Nat) : Int) + 1 + 1 + 1 + 1))).setN (j := 5) (o := k * 6 + 5) (by decide) rfl (.bool ((q + ((s : Nat) : Int) + 1 + 1 + 1 + 1 + 1) % 3 == 0))) ⟨([] ++ []), (([] ++ []) ++ ([] ++ [])), [.int .i64 (q + ((s : Nat) : Int)), .int .i64 (q + ((s : Nat) : Int) + 1)], [.int .i64 (q + ((s : Nat) : Int) + 1 + 1), .int .i64 (q + ((s : Nat) : Int) + 1 + 1 + 1), .int .i64 (q + ((s : Nat) : Int) + 1 + 1 + 1 + 1), .bool ((q + ((s : Nat) : Int) + 1 + 1 + 1 + 1 + 1) % 3 == 0)], rfl, rfl, ⟨[], [], [.int .i64 (q + ((s : Nat) : Int))], [.int .i64 (q + ((s : Nat) : Int) + 1)], rfl, rfl, ⟨rfl, rfl, In64.small (n := (q + ((s : Nat) : Int))) (by omega)⟩, ⟨rfl, rfl, In64.small (n := (q + ((s : Nat) : Int) + 1)) (by omega)⟩⟩, ⟨([] ++ []), ([] ++ []), [.int .i64 (q + ((s : Nat) : Int) + 1 + 1), .int .i64 (q + ((s : Nat) : Int) + 1 + 1 + 1)], [.int .i64 (q + ((s : Nat) : Int) + 1 + 1 + 1 + 1), .bool ((q + ((s : Nat) : Int) + 1 + 1 + 1 + 1 + 1) % 3 == 0)], rfl, rfl, ⟨[], [], [.int .i64 (q + ((s : Nat) : Int) + 1 + 1)], [.int .i64 (q + ((s : Nat) : Int) + 1 + 1 + 1)], rfl, rfl, ⟨rfl, rfl, In64.small (n := (q + ((s : Nat) : Int) + 1 + 1)) (by omega)⟩, ⟨rfl, rfl, In64.small (n := (q + ((s : Nat) : Int) + 1 + 1 + 1)) (by omega)⟩⟩, ⟨[], [], [.int .i64 (q + ((s : Nat) : Int) + 1 + 1 + 1 + 1)], [.bool ((q + ((s : Nat) : Int) + 1 + 1 + 1 + 1 + 1) % 3 == 0)], rfl, rfl, ⟨rfl, rfl, In64.small (n := (q + ((s : Nat) : Int) + 1 + 1 + 1 + 1)) (by omega)⟩, ⟨rfl, rfl⟩⟩⟩⟩)⟩
      case measure => simp [intOf]; omega
    · go_wp2_with fail
      go_ret
      obtain rfl : k = n := by omega
      have e1 : s = M := by have h2 := HS.out; rw [HN.out, List.take_length] at h2; rw [h2, HM.out]; rfl
      refine ⟨ret_int (by rw [e1]), HT.out, ?_⟩
      have h3 := HO.out
      rw [HN.out, mix_all] at h3
      rw [HN.out]
      exact h3
set_option maxHeartbeats 6400000 in
theorem laws_heldEdgeS_ (v : Value) (l : List (QE)) (q : Int) (w : World) (hv : tEdgeS.at w [v] (mkEdgeS l q)) (h0 : 0 ≤ q) (h1 : q + (cEdgeS l : Nat) ≤ 1000000000) (hl : wEdgeS l ≤ 1048576) :
    Calls Try.prog 60 #[v, .int .i64 q] w fun e w' => e = .returned (.int .i64 (q + (cEdgeS l : Nat))) ∧ More w w' := by
  obtain ⟨ao, cap, rfl⟩ := sl_len hv
  have hlen : (mkEdgeS l q).length = l.length := mkL_len _ _ _ _
  rw [hlen] at hv ⊢
  clear hlen
  have HV := Lib.hid hv; clear hv
  have HL := Lib.hid hl; clear hl
  obtain ⟨M, hM⟩ : ∃ M, M = cEdgeS l := ⟨_, rfl⟩
  have HM := Lib.hid hM
  rw [← hM] at h1 ⊢
  clear hM
  obtain ⟨n, hn⟩ : ∃ n, n = l.length := ⟨_, rfl⟩
  have hn1 : n ≤ 1048576 := by have := HL.out; unfold wEdgeS at this; omega
  rw [← hn] at HV ⊢
  have HN := Lib.hid hn; clear hn
  go_enter Try.func60, Try.ntmps60
  go_wp2_with fail
  go_loopw [1, 5] (fun c i wr => ∃ k s : Nat, k ≤ n ∧ i = .int .i64 k ∧ c = .int .i64 (q + s) ∧ s ≤ M ∧ Hid (s = wsum ceEdge (l.take k)) ∧ More w wr) (fun _ i _ => n - (intOf i).toNat)
  case atStart => exact ⟨0, 0, Nat.zero_le _, rfl, by simp, Nat.zero_le _, Lib.hid rfl, More.refl _⟩
  case round =>
    obtain ⟨k, s, hk, rfl, rfl, hsM, HS, hm⟩ := hrel
    by_cases hlt : k < n
    · obtain ⟨x, hx⟩ : ∃ x, l[k]? = some x := ⟨_, List.getElem?_eq_getElem (by rw [← HN.out]; exact hlt)⟩
      have hse : s + ceEdge x ≤ M := by
        have h2 := wsum_next (f := ceEdge) hx
        have h3 := wsum_take ceEdge l (k + 1)
        have h4 := HM.out
        have h5 := HS.out
        unfold cEdgeS at h4
        omega
      have HX := Lib.hid hx; clear hx
      obtain ⟨b, off, x', rfl, hblt, hx', hat, r0, r1, r2, r3, r4, r5⟩ := el_Edge (Ty.at_more HV.out hm) (k := k) (by rw [show (mkEdgeS l q).length = n from by rw [HN.out]; exact mkL_len _ _ _ _]; exact hlt)
      have ex : x' = meEdge x (q + s) := by
        have h2 := mkL_get meEdge ceEdge l q k x HX.out
        rw [← HS.out] at h2
        have h3 : (mkL meEdge ceEdge l q)[k]? = some x' := hx'
        rw [h2] at h3; exact (Option.some.inj h3).symm
      clear hx'; subst ex
      have HA := Lib.hid hat; clear hat
      have hce : ceEdge x = 1 + 1 + 1 + 1 + 1 + 1 := rfl
      rw [hce] at hse
      have t0 : wr.cell? ⟨b, off + k * 6, none⟩ = some (.int .i64 (q + ((s : Nat) : Int))) := by rw [r0]; simp only [meEdge, Int.natCast_add, Int.add_assoc, Int.natCast_one]
      have t1 : wr.cell? ⟨b, off + k * 6 + 1, none⟩ = some (.int .i64 (q + ((s : Nat) : Int) + 1)) := by rw [r1]; simp only [meEdge, Int.natCast_add, Int.add_assoc, Int.natCast_one]
      have t2 : wr.cell? ⟨b, off + k * 6 + 2, none⟩ = some (.int .i64 (q + ((s : Nat) : Int) + 1 + 1)) := by rw [r2]; simp only [meEdge, Int.natCast_add, Int.add_assoc, Int.natCast_one]
      have t3 : wr.cell? ⟨b, off + k * 6 + 3, none⟩ = some (.int .i64 (q + ((s : Nat) : Int) + 1 + 1 + 1)) := by rw [r3]; simp only [meEdge, Int.natCast_add, Int.add_assoc, Int.natCast_one]
      have t4 : wr.cell? ⟨b, off + k * 6 + 4, none⟩ = some (.int .i64 (q + ((s : Nat) : Int) + 1 + 1 + 1 + 1)) := by rw [r4]; simp only [meEdge, Int.natCast_add, Int.add_assoc, Int.natCast_one]
      have t5 : wr.cell? ⟨b, off + k * 6 + 5, none⟩ = some (.bool ((q + ((s : Nat) : Int) + 1 + 1 + 1 + 1 + 1) % 3 == 0)) := by rw [r5]; simp only [meEdge, Int.natCast_add, Int.add_assoc, Int.natCast_one]
      clear r0 r1 r2 r3 r4 r5
      go_wp2_with fail
      go_roundw
      case rel => exact ⟨k + 1, s + ceEdge x, by omega, by go_num, by congr 1; rw [hce]; omega, by omega, Lib.hid (by rw [wsum_next HX.out, HS.out]), (Turns.more (by repeat (first | (with_reducible exact Turns.refl _ _) | (with_reducible apply Turns.drew) | (with_reducible apply Turns.drewN) | (with_reducible apply Turns.alloc) | (with_reducible refine Turns.via (by assumption) ?_))))⟩
      case measure => simp [intOf]; omega
    · go_wp2_with fail
      go_ret
      obtain rfl : k = n := by omega
      have e1 : s = M := by have h2 := HS.out; rw [HN.out, List.take_length] at h2; rw [h2, HM.out]; rfl
      exact ⟨ret_int (by rw [e1]), hm⟩
end Go.Proofs.Ytejhibpaknjhnaa
