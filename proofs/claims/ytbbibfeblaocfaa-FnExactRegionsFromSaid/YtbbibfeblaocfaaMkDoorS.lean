/- markDoorS, heldDoorS: marks in what a value owns. -/
import Derived.Test.YtbbibfeblaocfaaGMk
import Derived.Deep.RegionHeld3
namespace Go.Proofs.Ytbbibfeblaocfaa
open Go.RowKit
set_option maxRecDepth 16000 in
set_option maxHeartbeats 6400000 in
theorem laws_markDoorS_ (bs : List Nat) (v : Value) (l : List (QDoor)) (q : Int) (w : World) (hv : tDoorS.own bs w [v] l) (hnd : bs.Nodup) (h0 : 0 ≤ q) (h1 : q + (cDoorS l : Nat) ≤ 1000000000) (hl : wDoorS l ≤ 1048576) :
    Calls Try.prog 160 #[v, .int .i64 q] w fun e w' => e = .returned (.int .i64 (q + (cDoorS l : Nat))) ∧ Turns bs w w' ∧ tDoorS.own bs w' [v] (mkDoorS l q) := by
  obtain ⟨ao, cap, rfl⟩ := sl_len (Ty.rd_at ((tSlice _).own_rd hv))
  have HV := Lib.hid hv; have HND := Lib.hid hnd; clear hv hnd
  have HL := Lib.hid hl; clear hl
  obtain ⟨M, hM⟩ : ∃ M, M = cDoorS l := ⟨_, rfl⟩
  have HM := Lib.hid hM
  rw [← hM] at h1 ⊢
  clear hM
  obtain ⟨n, hn⟩ : ∃ n, n = l.length := ⟨_, rfl⟩
  have hn1 : n ≤ 1048576 := by have := HL.out; unfold wDoorS at this; omega
  rw [← hn] at HV ⊢
  have HN := Lib.hid hn; clear hn
  go_enter Try.func160, Try.ntmps160
  go_wp2_with fail
  go_loopw [1, 5] (fun c i wr => ∃ k s : Nat, k ≤ n ∧ i = .int .i64 k ∧ c = .int .i64 (q + s) ∧ s ≤ M ∧ Hid (s = wsum ceDoor (l.take k)) ∧ Hid (Turns bs w wr) ∧ Hid (tDoorS.own bs wr [.slice ao n cap] (mix meDoor ceDoor l q k))) (fun _ i _ => n - (intOf i).toNat)
  case atStart => exact ⟨0, 0, Nat.zero_le _, rfl, by simp, Nat.zero_le _, Lib.hid rfl, Lib.hid (Turns.refl _ _), Lib.hid (by rw [mix_zero]; exact HV.out)⟩
  case round =>
    clear HV
    obtain ⟨k, s, hk, rfl, rfl, hsM, HS, HT, HO⟩ := hrel
    by_cases hlt : k < n
    · obtain ⟨x, hx⟩ : ∃ x, l[k]? = some x := ⟨_, List.getElem?_eq_getElem (by rw [← HN.out]; exact hlt)⟩
      have hx_ := hx
      have hse : s + ceDoor x ≤ M := by
        have h2 := wsum_next (f := ceDoor) hx
        have h3 := wsum_take ceDoor l (k + 1)
        have h4 := HM.out
        have h5 := HS.out
        unfold cDoorS at h4
        omega
      have HX := Lib.hid hx; clear hx hx_
      obtain ⟨g, bi, c, cap', hv', FO, ho, hnb⟩ := Foc.start HO.out HND.out (mix_get meDoor ceDoor q HX.out)
      simp only [Value.slice.injEq] at hv'
      obtain ⟨rfl, -, rfl⟩ := hv'
      clear HO
      obtain ⟨yb0, yd0, yc0, ye0, rfl, rfl, yf0, yg0⟩ := ho
      obtain ⟨rfl, rfl, yo0⟩ := yf0
      obtain ⟨rfl, rfl, yo1⟩ := yg0
      clear hnb
      have hgm := FO.mem; have hg0 := FO.hg
      have hce : ceDoor x = 1 + 1 := rfl
      rw [hce] at hse
      have p0 : wr.cell? ⟨g, k * 2, none⟩ = some (.int .i64 x.1) := FO.cell (j := 0) rfl
      have u0 : wr.frozen? ⟨g, k * 2, none⟩ = false := FO.free _
      have p1 : wr.cell? ⟨g, k * 2 + 1, none⟩ = some (.int .i64 x.2) := FO.cell (j := 1) rfl
      have u1 : wr.frozen? ⟨g, k * 2 + 1, none⟩ = false := FO.free _
      have FOh := Lib.hid FO; clear FO
      go_wp2_with fail
      go_roundw
      case rel => exact ⟨k + 1, s + ceDoor x, by omega, by go_num, by congr 1; rw [hce]; omega, by omega, Lib.hid (by rw [wsum_next HX.out, HS.out]), Lib.hid ((HT.out.setCell (.inl hgm) _).setCell (.inl hgm) _), Lib.hid (by rw [← mix_set meDoor ceDoor q HX.out, (show meDoor x (q + ((wsum ceDoor (l.take k) : Nat) : Int)) = ((q + ((s : Nat) : Int)), (q + ((s : Nat) : Int) + 1)) by rw [← HS.out]; unfold meDoor; simp only [Int.add_assoc, Int.natCast_one])]; exact Foc.close ((FOh.out.setN (j := 0) (o := k * 2) (by decide) rfl (.int .i64 (q + ((s : Nat) : Int)))).setN (j := 1) (o := k * 2 + 1) (by decide) rfl (.int .i64 (q + ((s : Nat) : Int) + 1))) ⟨[], [], [.int .i64 (q + ((s : Nat) : Int))], [.int .i64 (q + ((s : Nat) : Int) + 1)], rfl, rfl, ⟨rfl, rfl, In64.small (n := (q + ((s : Nat) : Int))) (by omega)⟩, ⟨rfl, rfl, In64.small (n := (q + ((s : Nat) : Int) + 1)) (by omega)⟩⟩)⟩
      case measure => simp [intOf]; omega
    · go_wp2_with fail
      go_ret
      obtain rfl : k = n := by omega
      have e1 : s = M := by have h2 := HS.out; rw [HN.out, List.take_length] at h2; rw [h2, HM.out]; rfl
      refine ⟨ret_int (by rw [e1]), HT.out, ?_⟩
      have h3 := HO.out
      rw [HN.out, mix_all] at h3
      rw [HN.out]
      exact h3
end Go.Proofs.Ytbbibfeblaocfaa
