/- The polygon that is drawn: a polygon, whatever the code. -/
import Derived.Test.YtbbibfeblaocfaaHuf
namespace Go.Proofs.Ytbbibfeblaocfaa
open Go.RowKit
theorem FlatOwn.turn8 {α : Type} {S : Ty α} {F : Flat S} {B : Nat} {e : TypeId} {w w' : World} {bs : List Nat} {v : Value} {l : List α} (h : FlatOwn F B e w v l) (hm : Turns bs w w') (hd : ∀ k ∈ bs, k < B) : FlatOwn F B e w' v l :=
  ⟨ownsRow_turns h.1 hm (fun g hg hb => by have h1 := (ownsRow_lt h.1 hg).1; have h2 := hd g hb; omega), h.2⟩
/-- An append to what lies above B leaves the cursor. -/
theorem Cur.push {W : World} {n : Nat} {bv : Value} {g B : Nat} {w w' : World} (h : Cur W n bv g w) (hg : g < B) (hB : B ≤ w.heap.size) (hp : ∀ V : World, V.heap.size = B → More V w → More V w') : Cur W n bv g w' := by
  have hV : More { w with heap := w.heap.take B } w := by
    refine ⟨rfl, rfl, rfl, ?_, fun k hk => ?_⟩
    · show (w.heap.take B).size ≤ w.heap.size
      simp; omega
    · have hk' : k < (w.heap.take B).size := hk
      have hk2 : k < B := by simp at hk'; omega
      show w.heap[k]? = (w.heap.take B)[k]?
      rw [Array.getElem?_eq_getElem hk', Array.getElem?_eq_getElem (by omega)]
      simp
  have h2 := hp _ (by show (w.heap.take B).size = B; simp; omega) hV
  have hsz : B ≤ w'.heap.size := by have := h2.size; simp at this; omega
  have hbl : ∀ k, k < B → w'.heap[k]? = w.heap[k]? := fun k hk => by
    have h3 := h2.block k (by show k < (w.heap.take B).size; simp; omega)
    have h4 := hV.block k (by show k < (w.heap.take B).size; simp; omega)
    exact h3.trans h4.symm
  obtain ⟨h1, q2, q3, q4, ⟨i, q5, q6⟩, ⟨q, q7⟩, q8⟩ := h
  have hb := hbl g hg
  refine ⟨⟨h2.os.trans h1.os, h2.tape.trans h1.tape, h2.output.trans h1.output, by omega, fun k hk => (hbl k (by omega)).trans (h1.block k hk)⟩, q2, by omega, cell_heap q4 hb, ⟨i, q5, cell_heap q6 hb⟩, ⟨q, cell_heap q7 hb⟩, fun j => ?_⟩
  rw [World.frozen?_of_block (w := w) (a := ⟨g, j, none⟩) hb]
  exact q8 j
theorem push_size {B : Nat} {w w' : World} (hB : B ≤ w.heap.size) (hp : ∀ V : World, V.heap.size = B → More V w → More V w') : B ≤ w'.heap.size := by
  have hV : More { w with heap := w.heap.take B } w := by
    refine ⟨rfl, rfl, rfl, ?_, fun k hk => ?_⟩
    · show (w.heap.take B).size ≤ w.heap.size
      simp; omega
    · have hk' : k < (w.heap.take B).size := hk
      have hk2 : k < B := by simp at hk'; omega
      show w.heap[k]? = (w.heap.take B)[k]?
      rw [Array.getElem?_eq_getElem hk', Array.getElem?_eq_getElem (by omega)]
      simp
  have h2 := (hp _ (by show (w.heap.take B).size = B; simp; omega) hV).size
  simp at h2
  omega
theorem tri_poly : isPoly [(-1, -1), (1, -1), (0, 1)] = true := by
  rw [isPoly_iff]
  refine ⟨⟨by decide, by decide⟩, fun i hi j hj => ?_⟩
  simp at hi hj
  rcases (show i = 0 ∨ i = 1 ∨ i = 2 by omega) with rfl | rfl | rfl <;> rcases (show j = 0 ∨ j = 1 ∨ j = 2 by omega) with rfl | rfl | rfl <;> decide
theorem spec_l01BelowI (W : World) (ao : Option Addr) (cap g : Nat) (l : List Int) (k : Nat) (z : Int) (w : World) (hz : z = (k : Int)) (hv : tCode.at W [.slice ao l.length cap] l) (hl : l.length ≤ 1048576) (hc : Cur W l.length (.slice ao l.length cap) g w) (hk0 : 0 < k) (hk1 : k ≤ 256) :
    Calls Try.prog 131 #[.pointer (some ⟨g, 0, none⟩), .int .i64 z] w fun e w' => ∃ x : Nat, x < k ∧ e = .returned (.int .i64 x) ∧ Cur W l.length (.slice ao l.length cap) g w' ∧ Turns [g] w w' := by
  subst hz
  exact spec_l01Below W ao cap g l k w hv hl hc hk0 hk1
set_option maxRecDepth 8000 in
set_option maxHeartbeats 6400000 in
theorem spec_l06Draw (W : World) (ao : Option Addr) (cap g : Nat) (l : List Int) (w : World) (hv : tCode.at W [.slice ao l.length cap] l) (hl : l.length ≤ 1048576) (hc : Cur W l.length (.slice ao l.length cap) g w) :
    Calls Try.prog 56 #[.pointer (some ⟨g, 0, none⟩), .int .i64 5] w fun e w' => ∃ v' m, e = .returned v' ∧ More W w' ∧ tVecs.at w' [v'] m ∧ isPoly m = true := by
  obtain ⟨i0, hi, hz0, hz1, hz2⟩ := info_parts infoVec
  have HV := Lib.hid hv; have HL := Lib.hid hl; have HC := Lib.hid hc; clear hv hl hc
  go_enter Try.func56, Try.ntmps56
  go_wp2_with fail
  go_loopw [5] (fun vk wr => ∃ k : Nat, vk = .int .i64 k ∧ k ≤ 8 ∧ Hid (Cur W l.length (.slice ao l.length cap) g wr)) (fun vk _ => 8 - (intOf vk).toNat)
  case atStart => exact ⟨0, rfl, by omega, HC⟩
  case round =>
    clear HC
    obtain ⟨k, rfl, hk, HC⟩ := hrel
    by_cases hlt : k < 8
    · have hk8 : (k : Int) < 8 := by omega
      have hgW : g < wr.heap.size := HC.out.lt.2
      go_wp2_with (go_at_call 131; refine (spec_l01BelowI W ao cap g l 3 3 _ rfl HV.out HL.out (HC.out.more mC) (by decide) (by decide)).mono ?_; rintro e w1 ⟨x, hx, rfl, C1, T1⟩; have HC1 := Lib.hid C1; have HT1 := Lib.hid T1; clear C1 T1)
      have HB1 : wr.heap.size ≤ w1.heap.size := by have := HT1.out.size; simp at this; omega
      obtain ⟨B0, hB0⟩ : ∃ B0, B0 = wr.heap.size := ⟨_, rfl⟩
      have hB0' : B0 ≤ wr.heap.size := Nat.le_of_eq hB0
      have hgB : g < B0 := by omega
      rw [← hB0] at HB1
      clear hB0
      go_loopw [6, 7] (fun vl vn wr2 => ∃ (q : Nat) (M : List QV), vn = .int .i64 q ∧ M.length + q ≤ 5 ∧ B0 ≤ wr2.heap.size ∧ Hid (Cur W l.length (.slice ao l.length cap) g wr2) ∧ Hid (FlatOwn fVec B0 42 wr2 vl M)) (fun _ vn _ => (intOf vn).toNat)
      case atStart => exact ⟨3 + x, [], by simp, by simp; omega, HB1, HC1, Lib.hid (FlatOwn.turn8 (FlatOwn.lit hB0') HT1.out (fun k0 h0 => by simp at h0; omega))⟩
      case round =>
        clear HC
        obtain ⟨q, M, rfl, hq, hws, HC, HM⟩ := hrel
        by_cases hq0 : q = 0
        · subst hq0
          go_wp2_with (first | (go_at_call 132; refine (spec_HullOf _ M _ HM.out.at (by omega)).mono ?_; rintro e w3 ⟨v3, M3, rfl, hb3, F3, hl3⟩; have HF3 := Lib.hid F3; clear F3; obtain ⟨pb, hpb⟩ : ∃ pb, pb = isPoly M3 := ⟨_, rfl⟩; have HPB := Lib.hid hpb; clear hpb) | (go_at_call 133; refine (spec_IsPolygon _ M3 _ (Ty.at_more HF3.out.at mC) (by omega)).mono ?_; rintro e w4 ⟨rfl, hb4⟩; rw [← HPB.out]))
          · go_ret
            have hmw : Hid (More W w4) := Lib.hid (HC.out.more (show More wr w4 from mC)).1
            exact ⟨_, M3, rfl, hmw.out, (show tVecs.at w4 [v3] M3 from Ty.at_more HF3.out.at (show More w3 w4 from mC)), HPB.out.symm.trans (by assumption)⟩
          · go_roundw
            case rel => exact ⟨k + 1, by go_num, by omega, Lib.hid (HC.out.more mC)⟩
            case measure => simp [intOf]; omega
        · obtain ⟨p, rfl⟩ : ∃ p, q = p + 1 := ⟨q - 1, by omega⟩
          have hqp : (0 : Int) < ((p + 1 : Nat) : Int) := by omega
          go_wp2_with (first | (go_at_call 131; (with_reducible refine (spec_l01BelowI W ao cap g l 11 11 wr rfl HV.out HL.out HC.out (by decide) (by decide)).mono ?_); rintro e w2 ⟨x1, hx1, rfl, C2, T2⟩; have HC2 := Lib.hid C2; have HT2 := Lib.hid T2; clear C2 T2) | (go_at_call 131; (with_reducible refine (spec_l01BelowI W ao cap g l 11 11 w2 rfl HV.out HL.out HC2.out (by decide) (by decide)).mono ?_); rintro e w3 ⟨x2, hx2, rfl, C3, T3⟩; have HC3 := Lib.hid C3; have HT3 := Lib.hid T3; clear C3 T3; have HM3 : Hid (FlatOwn fVec _ 42 w3 _ M) := Lib.hid (FlatOwn.turn8 (FlatOwn.turn8 HM.out HT2.out (fun k0 h0 => by simp at h0; omega)) HT3.out (fun k0 h0 => by simp at h0; omega)); have hws3 := Nat.le_trans hws (Nat.le_trans HT2.out.size HT3.out.size)) | (at_builtin; (repeat rw [drew_alloc]); go_loud (refine wpList_pushFlat fVec w3 rfl _ _ 23 rfl _ 42 i0 (.agg #[.int .i64 0, .int .i64 0]) 16 Try.underlying23 hi hz0 hz1 hz2 rfl (by decide) rfl HM3.out mC rfl (by simp) (y := ((x1 : Int) - 5, (x2 : Int) - 5)) rfl ⟨In64.small (by omega), In64.small (by omega)⟩ (Lib.hid (by omega)) (by decide) (Lib.hid hws3) ?_)))
          intro v4 w4 hl4 hm4
          have HC4 : Hid (Cur W l.length (.slice ao l.length cap) g w4) := Lib.hid (Cur.push HC3.out hgB hws3 (fun V hV hm => hm4 V hV (More.trans hm mC)))
          have hsz4 : B0 ≤ w4.heap.size := push_size hws3 (fun V hV hm => hm4 V hV (More.trans hm mC))
          go_wp2_with fail
          go_roundw
          case rel => exact ⟨p, M ++ [((x1 : Int) - 5, (x2 : Int) - 5)], by simp, by rw [List.length_append]; simp only [List.length_singleton]; omega, hsz4, HC4, Lib.hid hl4⟩
          case measure => simp [intOf]
    · have hk8 : ¬ (k : Int) < 8 := by omega
      go_wp2_with fail
      go_ret
      have hmw : ∀ w', More wr w' → More W w' := fun w' h => (HC.out.more h).1
      refine ⟨_, rfl, hmw _ mC, [(-1, -1), (1, -1), (0, 1)], Ty.fresh_at (lit_fresh fVec (by simp) rfl rfl (by simp) ?_), tri_poly⟩
      intro x hx
      simp at hx
      rcases hx with rfl | rfl | rfl <;> exact ⟨In64.small (by decide), In64.small (by decide)⟩
set_option maxRecDepth 4000 in
set_option maxHeartbeats 1600000 in
theorem spec_MakePolygon0 (ao : Option Addr) (cap : Nat) (l : List Int) (w : World) (hv : tCode.at w [.slice ao l.length cap] l) (hl : l.length ≤ 1048576) :
    Calls Try.prog 9 #[.slice ao l.length cap, .int .i64 0] w fun e w' => ∃ v' m, e = .returned v' ∧ More w w' ∧ tVecs.at w' [v'] m ∧ isPoly m = true := by
  have HV := Lib.hid hv; have HL := Lib.hid hl; clear hv hl
  go_enter Try.func9, Try.ntmps9
  go_wp2_with (first | (go_at_call 57; refine (spec_l31New ao cap l 0 _ HV.out HL.out (by decide)).mono ?_; rintro e w1 ⟨g, rfl, C1, hb1⟩; have HC1 := Lib.hid C1; clear C1) | (go_at_call 56; refine (spec_l06Draw w ao cap g l _ HV.out HL.out HC1.out).mono ?_; rintro e w2 ⟨v2, m, rfl, hb2, f2, hp⟩; have HF2 := Lib.hid (And.intro f2 hp); clear f2 hp))
  go_ret
  first | exact ⟨_, m, rfl, hb2, HF2.out.1, HF2.out.2⟩ | exact ⟨_, rfl, hb2, m, HF2.out.1, HF2.out.2⟩
end Go.Proofs.Ytbbibfeblaocfaa
