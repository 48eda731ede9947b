/- The reference's cursor of draws: a box with the code, a place in it and a number that is stirred. What it draws is small. -/
import Derived.Test.YtnbefpfijaimjaaGreatDoorGVec
import Derived.Deep.RegionHeld3
import Derived.Deep.QuietTactic
namespace Go.Proofs.YtnbefpfijaimjaaGreatDoor
open Go.RowKit
def tU8 : Ty Int where
  size := 1
  rd _ _ cs n := cs = [.int .u8 n] ∧ 0 ≤ n ∧ n ≤ 255
  own bs _ cs n := bs = [] ∧ cs = [.int .u8 n] ∧ 0 ≤ n ∧ n ≤ 255
  len := by rintro _ _ _ _ ⟨rfl, _⟩; rfl
  one := by rintro _ _ _ _ ⟨rfl, _⟩ u hu; simp at hu; subst hu; rfl
  keep := fun h _ => h
  own_rd := fun h => h.2
  own_keep := fun h _ => h
  own_lt := by rintro _ _ _ _ ⟨rfl, _⟩ k hk; cases hk
def tCode : Ty (List Int) := tSlice tU8
theorem u8_el {w : World} {ao : Option Addr} {n cap : Nat} {l : List Int} (h : tCode.at w [.slice ao n cap] l) {k : Nat} (hk : k < l.length) :
    ∃ b off x, ao = some ⟨b, off, none⟩ ∧ b < w.heap.size ∧ 0 ≤ x ∧ x ≤ 255 ∧ w.cell? ⟨b, off + k, none⟩ = some (.int .u8 x) := by
  obtain ⟨x, hx⟩ : ∃ x, l[k]? = some x := ⟨_, List.getElem?_eq_getElem hk⟩
  obtain ⟨b, off, c, rfl, hb, hc, hv⟩ := sl_el h hx
  obtain ⟨rfl, h0, h1⟩ := hc
  have := hv 0 _ rfl
  rw [show off + k * tU8.size + 0 = off + k by show off + k * 1 + 0 = off + k; omega] at this
  exact ⟨b, off, x, rfl, hb, h0, h1, this⟩
/-- The low bits of any number. -/
theorem bits_low (x : Int) (m : Nat) (hm : m ≤ 1073741823) : ∃ r : Nat, r ≤ m ∧ bits .and .i64 x (m : Int) = (r : Int) := by
  have h : (BitVec.ofInt 64 x &&& BitVec.ofInt 64 (m : Int)).toNat ≤ m := by
    rw [BitVec.toNat_and]
    refine Nat.le_trans Nat.and_le_right ?_
    rw [BitVec.ofInt_natCast, BitVec.toNat_ofNat]
    exact Nat.mod_le _ _
  refine ⟨(BitVec.ofInt 64 x &&& BitVec.ofInt 64 (m : Int)).toNat, h, ?_⟩
  show IntKind.i64.wrap (((BitVec.ofInt 64 x &&& BitVec.ofInt 64 (m : Int)).toNat : Nat) : Int) = _
  generalize (BitVec.ofInt 64 x &&& BitVec.ofInt 64 (m : Int)).toNat = r at h ⊢
  exact IntWalk.i64_in _ (by omega)
theorem bits_255 (x : Int) : ∃ r : Nat, r ≤ 255 ∧ bits .and .i64 x 255 = (r : Int) := bits_low x 255 (by decide)
theorem bits_30 (x : Int) : ∃ r : Nat, r ≤ 1073741823 ∧ bits .and .i64 x 1073741823 = (r : Int) := bits_low x 1073741823 (by decide)
/-- The cursor in block g: the code as it lay in the world W, a place, a number. -/
def Cur (W : World) (n : Nat) (bv : Value) (g : Nat) (w : World) : Prop :=
  More W w ∧ W.heap.size ≤ g ∧ g < w.heap.size ∧ w.cell? ⟨g, 0, none⟩ = some bv ∧ (∃ i : Nat, i ≤ n ∧ w.cell? ⟨g, 1, none⟩ = some (.int .i64 i)) ∧ (∃ h, w.cell? ⟨g, 2, none⟩ = some (.int .i64 h)) ∧ ∀ j, w.frozen? ⟨g, j, none⟩ = false
theorem Cur.more {W : World} {n : Nat} {bv : Value} {g : Nat} {w w' : World} (h : Cur W n bv g w) (hm : More w w') : Cur W n bv g w' := by
  obtain ⟨h1, h2, h3, h4, ⟨i, h5, h6⟩, ⟨q, h7⟩, h8⟩ := h
  have hb := hm.block g h3
  refine ⟨h1.trans hm, h2, Nat.lt_of_lt_of_le h3 hm.size, cell_heap h4 hb, ⟨i, h5, cell_heap h6 hb⟩, ⟨q, cell_heap h7 hb⟩, fun j => ?_⟩
  rw [World.frozen?_of_block (w := w) (a := ⟨g, j, none⟩) hb]
  exact h8 j
theorem ret_255 (x : Int) {p : Prop} (h : p) : ∃ r : Nat, r ≤ 255 ∧ Ending.returned (Value.int .i64 (bits .and .i64 x 255)) = Ending.returned (Value.int .i64 (r : Int)) ∧ p := by
  obtain ⟨r, hr, er⟩ := bits_255 x
  exact ⟨r, hr, by rw [er], h⟩
theorem Cur.lt {W : World} {n : Nat} {bv : Value} {g : Nat} {w : World} (h : Cur W n bv g w) : W.heap.size ≤ g ∧ g < w.heap.size := ⟨h.2.1, h.2.2.1⟩
theorem Cur.drewN {W : World} {n : Nat} {bv : Value} {g : Nat} {w : World} (h : Cur W n bv g w) (k : Nat) : Cur W n bv g (w.drewN k) := h.more (Turns.more ((Turns.refl [] w).drewN))
theorem Cur.set2 {W : World} {n : Nat} {bv : Value} {g : Nat} {w : World} (h : Cur W n bv g w) (v : Int) : Cur W n bv g (w.setCell ⟨g, 2, none⟩ (.int .i64 v)) := by
  have ht : Turns [g] w (w.setCell ⟨g, 2, none⟩ (.int .i64 v)) := (Turns.refl _ w).setCell (.inl (by simp)) _
  obtain ⟨h1, h2, h3, h4, ⟨i, h5, h6⟩, ⟨q, h7⟩, h8⟩ := h
  refine ⟨More.turn h1 ht (by simpa using h2), h2, Nat.lt_of_lt_of_le h3 ht.size, ?_, ⟨i, h5, ?_⟩, ⟨v, World.cell?_setCell_same' _ _ _ (by rw [h7]; rfl)⟩, fun j => by rw [World.frozen?_setCell]; exact h8 j⟩
  · rw [World.cell?_setCell_other _ _ _ _ (by simp)]; exact h4
  · rw [World.cell?_setCell_other _ _ _ _ (by simp)]; exact h6
theorem Cur.set1 {W : World} {n : Nat} {bv : Value} {g : Nat} {w : World} (h : Cur W n bv g w) (v : Int) (k : Nat) (hv : v = (k : Int)) (hk : k ≤ n) : Cur W n bv g (w.setCell ⟨g, 1, none⟩ (.int .i64 v)) := by
  subst hv
  have ht : Turns [g] w (w.setCell ⟨g, 1, none⟩ (.int .i64 (k : Int))) := (Turns.refl _ w).setCell (.inl (by simp)) _
  obtain ⟨h1, h2, h3, h4, ⟨i, h5, h6⟩, ⟨q, h7⟩, h8⟩ := h
  refine ⟨More.turn h1 ht (by simpa using h2), h2, Nat.lt_of_lt_of_le h3 ht.size, ?_, ⟨k, hk, World.cell?_setCell_same' _ _ _ (by rw [h6]; rfl)⟩, ⟨q, ?_⟩, fun j => by rw [World.frozen?_setCell]; exact h8 j⟩
  · rw [World.cell?_setCell_other _ _ _ _ (by simp)]; exact h4
  · rw [World.cell?_setCell_other _ _ _ _ (by simp)]; exact h7
set_option maxRecDepth 4000 in
set_option maxHeartbeats 1600000 in
theorem spec_l01Byte (W : World) (ao : Option Addr) (cap g : Nat) (l : List Int) (w : World) (hv : tCode.at W [.slice ao l.length cap] l) (hl : l.length ≤ 1048576) (hc : Cur W l.length (.slice ao l.length cap) g w) :
    Calls Tryz.prog 60 #[.pointer (some ⟨g, 0, none⟩)] w fun e w' => ∃ x : Nat, x ≤ 255 ∧ e = .returned (.int .i64 x) ∧ Cur W l.length (.slice ao l.length cap) g w' ∧ Turns [g] w w' := by
  obtain ⟨n, hn⟩ : ∃ n, n = l.length := ⟨_, rfl⟩
  rw [← hn] at hv hl hc ⊢
  have HC := Lib.hid hc
  obtain ⟨h1, h2, h3, h4, ⟨i, h5, h6⟩, ⟨q, h7⟩, h8⟩ := hc
  have HV := Lib.hid hv; have HM := Lib.hid h1; have HN := Lib.hid hn; clear hv h1 hn
  have hi0 : (0 : Int) ≤ (i : Int) := by omega
  have hg : W.heap.size ≤ g := h2
  by_cases hi : i < n
  · obtain ⟨b, off, x, rfl, hb, hx0, hx1, hx⟩ := u8_el HV.out (k := i) (by rw [← HN.out]; exact hi)
    have hi1 : (i : Int) < (n : Int) := by omega
    have hbg : b ≠ g := by omega
    have hbg' : g ≠ b := by omega
    have hx' : w.cell? ⟨b, off + i, none⟩ = some (.int .u8 x) := cell_heap hx (HM.out.block b hb)
    clear hx
    have hcv : IntKind.i64.wrap x = x := IntWalk.i64_in _ (by omega)
    have hw1 : IntKind.i64.wrap ((i : Int) + 1) = (i : Int) + 1 := IntWalk.i64_in _ (by omega)
    go_enter Tryz.func60, Tryz.ntmps60
    go_wp2_with fail
    go_quiet (fail)
    go_wp2_with fail
    go_quiet (fail)
    go_wp2_with fail
    go_quiet (fail)
    go_wp2_with fail
    go_ret
    exact ret_255 _ ⟨(by refine Cur.set1 ?_ _ (i + 1) (by omega) (by omega); repeat (first | (with_reducible exact HC.out.set2 _) | (with_reducible apply Cur.drewN))), by repeat (first | (with_reducible exact Turns.refl _ _) | (with_reducible apply Turns.drewN) | (with_reducible apply Turns.drew) | (with_reducible refine Turns.setCell ?_ (.inl (by simp)) _))⟩
  · go_enter Tryz.func60, Tryz.ntmps60
    go_wp2_with fail
    go_quiet (fail)
    go_wp2_with fail
    go_quiet (fail)
    go_wp2_with fail
    go_ret
    exact ret_255 _ ⟨((HC.out.set2 _).drewN _).drewN _, by repeat (first | (with_reducible exact Turns.refl _ _) | (with_reducible apply Turns.drewN) | (with_reducible apply Turns.drew) | (with_reducible refine Turns.setCell ?_ (.inl (by simp)) _))⟩
set_option maxRecDepth 4000 in
set_option maxHeartbeats 1600000 in
theorem spec_l01Below (W : World) (ao : Option Addr) (cap g : Nat) (l : List Int) (k : Nat) (w : World) (hv : tCode.at W [.slice ao l.length cap] l) (hl : l.length ≤ 1048576) (hc : Cur W l.length (.slice ao l.length cap) g w) (hk0 : 0 < k) (hk1 : k ≤ 256) :
    Calls Tryz.prog 58 #[.pointer (some ⟨g, 0, none⟩), .int .i64 (k : Int)] w fun e w' => ∃ x : Nat, x < k ∧ e = .returned (.int .i64 x) ∧ Cur W l.length (.slice ao l.length cap) g w' ∧ Turns [g] w w' := by
  have HV := Lib.hid hv; have HL := Lib.hid hl; have HC := Lib.hid hc; clear hv hl hc
  have k0 : ¬ (k : Int) ≤ 0 := by omega
  have k1 : (k : Int) ≤ 256 := by omega
  have k2 : ((k : Int) == 0) = false := by simp; omega
  go_enter Tryz.func58, Tryz.ntmps58
  go_wp2_with (go_at_call 60; refine (spec_l01Byte W ao cap g l _ HV.out HL.out HC.out).mono ?_; rintro e w1 ⟨x, hx, rfl, C1, T1⟩; have HC1 := Lib.hid C1; have HT1 := Lib.hid T1; clear C1 T1; have hmt : (x : Int).tmod (k : Int) = ((x % k : Nat) : Int) := by rw [Int.tmod_eq_emod_of_nonneg (by omega)]; rfl)
  go_ret
  exact ⟨x % k, Nat.mod_lt _ hk0, rfl, HC1.out, HT1.out⟩
set_option maxRecDepth 4000 in
set_option maxHeartbeats 1600000 in
theorem spec_l01New (ao : Option Addr) (cap : Nat) (l : List Int) (w : World) (hv : tCode.at w [.slice ao l.length cap] l) (hl : l.length ≤ 1048576) :
    Calls Tryz.prog 59 #[.slice ao l.length cap] w fun e w' => ∃ g, e = .returned (.pointer (some ⟨g, 0, none⟩)) ∧ Cur w l.length (.slice ao l.length cap) g w' ∧ More w w' := by
  obtain ⟨n, hn⟩ : ∃ n, n = l.length := ⟨_, rfl⟩
  rw [← hn] at hv hl ⊢
  have HV := Lib.hid hv; have HN := Lib.hid hn; clear hv hn
  go_enter Tryz.func59, Tryz.ntmps59
  go_wp2_with fail
  go_loopw [3, 4] (fun vh vi wr => ∃ (h : Int) (k : Nat), vh = .int .i64 h ∧ vi = .int .i64 k ∧ k ≤ n ∧ More w wr) (fun _ i _ => n - (intOf i).toNat)
  case atStart => exact ⟨_, 0, rfl, rfl, Nat.zero_le _, mC⟩
  case round =>
    obtain ⟨h, k, rfl, rfl, hk, hm⟩ := hrel
    have HM := Lib.hid hm
    have END : ∀ w5 : World, w5 = wr.alloc (.cells #[.slice ao n cap, .int .i64 0, .int .i64 h] 106) → Cur w n (.slice ao n cap) wr.heap.size w5 ∧ More w w5 := by
      rintro w5 rfl
      have hmr : More wr (wr.alloc (.cells #[.slice ao n cap, .int .i64 0, .int .i64 h] 106)) := Turns.more ((Turns.refl [] _).alloc _)
      have hb := More.refl (wr.alloc (.cells #[.slice ao n cap, .int .i64 0, .int .i64 h] 106))
      exact ⟨⟨HM.out.trans hmr, HM.out.size, by simp, box_new rfl hb 0, ⟨0, Nat.zero_le _, box_new rfl hb 1⟩, ⟨h, box_new rfl hb 2⟩, fun j => box_free rfl hb j⟩, HM.out.trans hmr⟩
    have HEND := Lib.hid END; clear END
    by_cases hlt : k < n
    · by_cases h4 : k < 4000
      · obtain ⟨b, off, x, rfl, hb, hx0, hx1, hx⟩ := u8_el (Ty.at_more HV.out hm) (k := k) (by rw [← HN.out]; exact hlt)
        have hi0 : (0 : Int) ≤ (k : Int) := by omega
        have hi1 : (k : Int) < (n : Int) := by omega
        have hi2 : (k : Int) < 4000 := by omega
        go_wp2_with fail
        go_roundw
        case rel => exact ⟨_, k + 1, rfl, by go_num, by omega, mC⟩
        case measure => simp [intOf]; omega
      · have hi1 : (k : Int) < (n : Int) := by omega
        have hi2 : ¬ (k : Int) < 4000 := by omega
        go_wp2_with fail
        go_ret
        exact ⟨_, rfl, HEND.out _ rfl⟩
    · have hi1 : ¬ (k : Int) < (n : Int) := by omega
      go_wp2_with fail
      go_ret
      exact ⟨_, rfl, HEND.out _ rfl⟩
set_option maxRecDepth 4000 in
set_option maxHeartbeats 1600000 in
theorem spec_l31New (ao : Option Addr) (cap : Nat) (l : List Int) (m : Nat) (w : World) (hv : tCode.at w [.slice ao l.length cap] l) (hl : l.length ≤ 1048576) (hm : m ≤ 1000) :
    Calls Tryz.prog 29 #[.slice ao l.length cap, .int .i64 (m : Int)] w fun e w' => ∃ g, e = .returned (.pointer (some ⟨g, 0, none⟩)) ∧ Cur w l.length (.slice ao l.length cap) g w' ∧ More w w' := by
  have HV := Lib.hid hv; have HL := Lib.hid hl; clear hv hl
  go_enter Tryz.func29, Tryz.ntmps29
  go_wp2_with (go_at_call 59; refine (spec_l01New ao cap l _ HV.out HL.out).mono ?_; rintro e w1 ⟨g, rfl, C1, hb1⟩; have HC1 := Lib.hid C1; clear C1)
  go_loopw [6] (fun vi wr => ∃ k : Nat, vi = .int .i64 k ∧ k ≤ m ∧ Hid (Cur w l.length (.slice ao l.length cap) g wr)) (fun i _ => m - (intOf i).toNat)
  case atStart => exact ⟨0, rfl, Nat.zero_le _, HC1⟩
  case round =>
    obtain ⟨k, rfl, hk, HC⟩ := hrel
    by_cases hlt : k < m
    · have hi1 : (k : Int) < (m : Int) := by omega
      go_wp2_with (go_at_call 60; refine (spec_l01Byte w ao cap g l _ HV.out HL.out HC.out).mono ?_; rintro e w2 ⟨x, hx, rfl, C2, T2⟩; have HC2 := Lib.hid C2; clear C2 T2)
      go_roundw
      case rel => exact ⟨k + 1, by go_num, by omega, HC2⟩
      case measure => simp [intOf]; omega
    · have hi1 : ¬ (k : Int) < (m : Int) := by omega
      go_wp2_with fail
      go_ret
      exact ⟨_, rfl, HC.out, HC.out.1⟩
end Go.Proofs.YtnbefpfijaimjaaGreatDoor
