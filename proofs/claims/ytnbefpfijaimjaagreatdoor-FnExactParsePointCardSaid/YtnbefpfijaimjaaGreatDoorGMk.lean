/- Several texts laid together; each has its own word at its head. -/
import Derived.Test.YtnbefpfijaimjaaGreatDoorGBase
import Derived.Test.YtnbefpfijaimjaaGreatDoorGVec
import Derived.Deep.RegionHeld3
/- A list of one's own, opened at one element: what is written there, and into what that element owns. Lists of marks. It speaks of no program. -/
namespace Go.Proofs.YtnbefpfijaimjaaGreatDoor
open Go.RowKit
variable {α : Type}

structure Foc (S : Ty α) (bs : List Nat) (v : Value) (L : List α) (i : Nat) (g : Nat) (bi : List Nat) (w : World) (c : List Value) : Prop where
  len : c.length = S.size
  lt : i < L.length
  out : g ∉ bi
  sub : ∀ k ∈ bi, k ∈ bs
  mem : g ∈ bs
  hg : g < w.heap.size
  rest : ∃ (cap : Nat) (e : TypeId) (xs : List Value) (bss : List (List Nat)), v = .slice (some ⟨g, 0, none⟩) L.length cap ∧ w.ownsRow g e S.size v L.length xs ∧ ((xs.drop (i * S.size)).take S.size) = c ∧ bss.length = L.length ∧ bs = g :: bss.flatten ∧ bss[i]? = some bi ∧
    (∀ j b, j ≠ i → bss[j]? = some b → ∀ k ∈ b, k ∉ bi) ∧ ∀ j x b, j ≠ i → L[j]? = some x → bss[j]? = some b → g ∉ b ∧ S.own b w ((xs.drop (j * S.size)).take S.size) x

theorem nodup_parts {bss : List (List Nat)} (h : bss.flatten.Nodup) : (∀ b ∈ bss, b.Nodup) ∧ ∀ (i j : Nat) (a b : List Nat), i ≠ j → bss[i]? = some a → bss[j]? = some b → ∀ k ∈ b, k ∉ a := by
  induction bss with
  | nil => exact ⟨by simp, by intro i j a b _ h; simp at h⟩
  | cons c cs ih =>
    rw [List.flatten_cons, List.nodup_append] at h
    obtain ⟨h1, h2, h3⟩ := h
    obtain ⟨i1, i2⟩ := ih h2
    refine ⟨fun b hb => ?_, fun i j a b hij ha hb k hk hka => ?_⟩
    · rcases List.mem_cons.1 hb with rfl | hb
      · exact h1
      · exact i1 b hb
    · cases i with
      | zero =>
        simp at ha
        subst ha
        cases j with
        | zero => exact hij rfl
        | succ j =>
          simp at hb
          exact h3 k hka k (List.mem_flatten.2 ⟨b, List.mem_of_getElem? hb, hk⟩) rfl
      | succ i =>
        simp at ha
        cases j with
        | zero =>
          simp at hb
          subst hb
          exact h3 k hk k (List.mem_flatten.2 ⟨a, List.mem_of_getElem? ha, hka⟩) rfl
        | succ j =>
          simp at hb
          exact i2 i j a b (by omega) ha hb k hk hka

theorem Foc.start {S : Ty α} {bs : List Nat} {w : World} {v : Value} {L : List α} (h : (tSlice S).own bs w [v] L) (hnd : bs.Nodup) {i : Nat} {x : α} (hx : L[i]? = some x) :
    ∃ g bi c cap, v = .slice (some ⟨g, 0, none⟩) L.length cap ∧ Foc S bs v L i g bi w c ∧ S.own bi w c x ∧ bi.Nodup := by
  obtain ⟨ao, cap, hv, h1, h2, h3, h4⟩ := h
  simp at hv
  subst hv
  have hi : i < L.length := (List.getElem?_eq_some_iff.1 hx).1
  rcases h4 with ⟨rfl, _⟩ | ⟨g, e, cur, bss, rfl, hg, hs, hb, rfl, ho⟩
  · simp at hi
  rw [List.nodup_cons] at hnd
  obtain ⟨hn1, hn2⟩ := hnd
  obtain ⟨p1, p2⟩ := nodup_parts hn2
  have hbi : bss[i]? = some (bss[i]'(by omega)) := List.getElem?_eq_getElem (by omega)
  have hown := ho i x _ hx hbi
  have hcl : cur.toList.length = cap * S.size := by simpa using hs
  have hrow : w.ownsRow g e S.size (.slice (some ⟨g, 0, none⟩) L.length cap) L.length (cur.toList.take (L.length * S.size)) := by
    refine ⟨?_, .inr ⟨g, cap, cur, rfl, Nat.le_refl _, hg, h1, h2, hs, rfl⟩⟩
    rw [List.length_take, hcl]
    exact Nat.min_eq_left (Nat.mul_le_mul_right _ h1)
  have hch : ∀ j, j < L.length → ((cur.toList.take (L.length * S.size)).drop (j * S.size)).take S.size = (cur.toList.drop (j * S.size)).take S.size := by
    intro j hj
    have h6 : (j + 1) * S.size ≤ L.length * S.size := Nat.mul_le_mul_right _ hj
    rw [Nat.succ_mul] at h6
    rw [List.drop_take, List.take_take, Nat.min_eq_left (by omega)]
  refine ⟨g, _, _, cap, rfl, ⟨S.len (S.own_rd hown), hi, fun hm => hn1 (List.mem_flatten.2 ⟨_, List.mem_of_getElem? hbi, hm⟩), fun k hk => List.mem_cons_of_mem _ (List.mem_flatten.2 ⟨_, List.mem_of_getElem? hbi, hk⟩), List.mem_cons_self, heap_lt hg,
    ⟨cap, e, _, bss, rfl, hrow, hch i hi, hb, rfl, hbi, fun j b hj hbj => p2 i j _ b (Ne.symm hj) hbi hbj, fun j y b hj hy hbj => ⟨fun hm => hn1 (List.mem_flatten.2 ⟨b, List.mem_of_getElem? hbj, hm⟩), ?_⟩⟩⟩, hown, p1 _ (List.mem_of_getElem? hbi)⟩
  rw [hch j (List.getElem?_eq_some_iff.1 hy).1]
  exact ho j y b hy hbj
theorem Foc.cell {S : Ty α} {bs : List Nat} {w : World} {v : Value} {L : List α} {i g : Nat} {bi : List Nat} {c : List Value} (h : Foc S bs v L i g bi w c) {j : Nat} {u : Value} (hj : c[j]? = some u) : w.cell? ⟨g, i * S.size + j, none⟩ = some u := by
  obtain ⟨cap, e, xs, bss, rfl, h1, rfl, _⟩ := h.rest
  rw [List.getElem?_take] at hj
  split at hj
  · rw [List.getElem?_drop] at hj
    have := h1.cells (g := g) rfl _ _ hj
    rwa [Addr.add_lit, Nat.zero_add] at this
  · cases hj
theorem Foc.free {S : Ty α} {bs : List Nat} {w : World} {v : Value} {L : List α} {i g : Nat} {bi : List Nat} {c : List Value} (h : Foc S bs v L i g bi w c) (j : Nat) : w.frozen? ⟨g, j, none⟩ = false := by
  obtain ⟨cap, e, xs, bss, rfl, h1, _⟩ := h.rest
  exact h1.frozenAt j
theorem Foc.turn {S : Ty α} {bs ts : List Nat} {w w' : World} {v : Value} {L : List α} {i g : Nat} {bi : List Nat} {c : List Value} (h : Foc S bs v L i g bi w c) (ht : Turns ts w w') (hs : ∀ k ∈ ts, k ∈ bi) : Foc S bs v L i g bi w' c := by
  obtain ⟨a1, a2, a3, a4, a5, a6, cap, e, xs, bss, hv, h1, h2, h3, h4, h5, h6, h7⟩ := h
  refine ⟨a1, a2, a3, a4, a5, Nat.lt_of_lt_of_le a6 ht.size, cap, e, xs, bss, hv, ownsRow_turns h1 ht (fun k hk hkt => ?_), h2, h3, h4, h5, h6, fun j x b hj hx hb => ⟨(h7 j x b hj hx hb).1, Ty.own_turns (h7 j x b hj hx hb).2 ht (fun k hk hkt => h6 j b hj hb k hk (hs k hkt))⟩⟩
  rw [hv] at hk
  simp [Value.ownBlock] at hk
  subst hk
  exact a3 (hs _ hkt)
theorem Foc.more {S : Ty α} {bs : List Nat} {w w' : World} {v : Value} {L : List α} {i g : Nat} {bi : List Nat} {c : List Value} (h : Foc S bs v L i g bi w c) (hm : More w w') : Foc S bs v L i g bi w' c := h.turn (hm.turns []) (by simp)
theorem Foc.set {S : Ty α} {bs : List Nat} {w : World} {v : Value} {L : List α} {i g : Nat} {bi : List Nat} {c : List Value} (h : Foc S bs v L i g bi w c) {j : Nat} (hj : j < S.size) (u : Value) : Foc S bs v L i g bi (w.setCell ⟨g, i * S.size + j, none⟩ u) (c.set j u) := by
  obtain ⟨a1, a2, a3, a4, a5, a6, cap, e, xs, bss, hv, h1, h2, h3, h4, h5, h6, h7⟩ := h
  have hcl : xs.length = L.length * S.size := h1.1
  have hT : Turns [g] w (w.setCell ⟨g, i * S.size + j, none⟩ u) := (Turns.refl _ _).setCell (.inl (by simp)) _
  have h8 : (i + 1) * S.size ≤ L.length * S.size := Nat.mul_le_mul_right _ a2
  rw [Nat.succ_mul] at h8
  refine ⟨by simpa using a1, a2, a3, a4, a5, Nat.lt_of_lt_of_le a6 hT.size, cap, e, xs.set (i * S.size + j) u, bss, hv, ?_, ?_, h3, h4, h5, h6, fun q x b hq hx hb => ⟨(h7 q x b hq hx hb).1, ?_⟩⟩
  · subst hv
    exact (h1.stored (i * S.size + j) u).1
  · subst h2
    apply List.ext_getElem?
    intro m
    rw [List.getElem?_take, List.getElem?_set, List.getElem?_drop, List.getElem?_set]
    by_cases hm : m < S.size
    · rw [if_pos hm]
      by_cases hjm : j = m
      · subst hjm
        rw [if_pos rfl, if_pos (by omega), if_pos rfl, if_pos (by rw [List.length_take, List.length_drop]; omega)]
      · rw [if_neg (by omega), if_neg hjm, List.getElem?_take, if_pos hm, List.getElem?_drop]
    · rw [if_neg hm, if_neg (by omega), List.getElem?_take, if_neg hm]
  · obtain ⟨hgb, ho⟩ := h7 q x b hq hx hb
    have e1 : ((xs.set (i * S.size + j) u).drop (q * S.size)).take S.size = (xs.drop (q * S.size)).take S.size := by
      have := setL_chunk_other (xs := xs) (cs := [u]) (k := i) (i := q) (s := 1)
      apply List.ext_getElem?
      intro m
      rw [List.getElem?_take, List.getElem?_take]
      by_cases hm : m < S.size
      · rw [if_pos hm, if_pos hm, List.getElem?_drop, List.getElem?_drop, List.getElem?_set_ne]
        intro hh
        rcases Nat.lt_or_gt_of_ne hq with h | h
        · have h3 : (q + 1) * S.size ≤ i * S.size := Nat.mul_le_mul_right _ h
          rw [Nat.succ_mul] at h3
          omega
        · have h3 : (i + 1) * S.size ≤ q * S.size := Nat.mul_le_mul_right _ h
          rw [Nat.succ_mul] at h3
          omega
      · rw [if_neg hm, if_neg hm]
    rw [e1]
    exact Ty.own_turns ho hT (fun k hk hkg => by simp at hkg; subst hkg; exact hgb hk)
theorem Foc.setN {S : Ty α} {bs : List Nat} {w : World} {v : Value} {L : List α} {i g : Nat} {bi : List Nat} {c : List Value} (h : Foc S bs v L i g bi w c) {j o : Nat} (hj : j < S.size) (ho : o = i * S.size + j) (u : Value) : Foc S bs v L i g bi (w.setCell ⟨g, o, none⟩ u) (c.set j u) := by
  subst ho
  exact h.set hj u
theorem Foc.close {S : Ty α} {bs : List Nat} {w : World} {v : Value} {L : List α} {i g : Nat} {bi : List Nat} {c : List Value} {x' : α} (h : Foc S bs v L i g bi w c) (ho : S.own bi w c x') : (tSlice S).own bs w [v] (L.set i x') := by
  obtain ⟨a1, a2, a3, a4, a5, a6, cap, e, xs, bss, hv, h1, h2, h3, h4, h5, h6, h7⟩ := h
  subst hv
  rcases h1.2 with ⟨hv, _⟩ | ⟨g', cap', cur, hv, hg, hh, hn, hc, hs, ht⟩
  · cases hv
  simp at hv
  obtain ⟨rfl, rfl⟩ := hv
  refine ⟨some ⟨g, 0, none⟩, cap, by rw [List.length_set], by rw [List.length_set]; exact hn, hc, (fun e => by cases e), .inr ⟨g, e, cur, bss, rfl, hh, hs, by rw [List.length_set]; exact h3, h4, ?_⟩⟩
  have hch : ∀ j, j < L.length → (xs.drop (j * S.size)).take S.size = (cur.toList.drop (j * S.size)).take S.size := by
    intro j hj
    have h6 : (j + 1) * S.size ≤ L.length * S.size := Nat.mul_le_mul_right _ hj
    rw [Nat.succ_mul] at h6
    rw [← ht, List.drop_take, List.take_take, Nat.min_eq_left (by omega)]
  intro j y b hy hb
  by_cases hj : i = j
  · subst hj
    rw [List.getElem?_set_self a2] at hy
    cases hy
    rw [h5] at hb
    cases hb
    rw [← hch i a2, h2]
    exact ho
  · rw [List.getElem?_set_ne hj] at hy
    rw [← hch j (List.getElem?_eq_some_iff.1 hy).1]
    exact (h7 j y b (Ne.symm hj) hy hb).2

/-! ### Lists of marks -/
def mkL (f : α → Int → α) (c : α → Nat) : List α → Int → List α
  | [], _ => []
  | x :: l, k => f x k :: mkL f c l (k + c x)
theorem mkL_len (f : α → Int → α) (c : α → Nat) : ∀ (l : List α) (k : Int), (mkL f c l k).length = l.length
  | [], _ => rfl
  | x :: l, k => by simp [mkL, mkL_len f c l]
theorem mkL_get (f : α → Int → α) (c : α → Nat) : ∀ (l : List α) (k : Int) (i : Nat) (x : α), l[i]? = some x → (mkL f c l k)[i]? = some (f x (k + wsum c (l.take i)))
  | [], _, i, x, h => by simp at h
  | y :: l, k, 0, x, h => by simp at h; subst h; simp [mkL, wsum]
  | y :: l, k, i + 1, x, h => by
    have := mkL_get f c l (k + c y) i x (by simpa using h)
    rw [mkL, List.getElem?_cons_succ, this]
    simp only [List.take_succ_cons, wsum, List.map_cons, List.sum_cons]
    congr 2
    omega
def mix (f : α → Int → α) (c : α → Nat) (l : List α) (k : Int) (i : Nat) : List α := (mkL f c l k).take i ++ l.drop i
theorem mix_len (f : α → Int → α) (c : α → Nat) (l : List α) (k : Int) (i : Nat) : (mix f c l k i).length = l.length := by
  unfold mix
  rw [List.length_append, List.length_take, List.length_drop, mkL_len]
  omega
theorem mix_zero (f : α → Int → α) (c : α → Nat) (l : List α) (k : Int) : mix f c l k 0 = l := by simp [mix]
theorem mix_all (f : α → Int → α) (c : α → Nat) (l : List α) (k : Int) : mix f c l k l.length = mkL f c l k := by
  unfold mix
  rw [List.take_of_length_le (by rw [mkL_len]; exact Nat.le_refl _), List.drop_of_length_le (Nat.le_refl _), List.append_nil]
theorem mix_get (f : α → Int → α) (c : α → Nat) {l : List α} (k : Int) {i : Nat} {x : α} (hx : l[i]? = some x) : (mix f c l k i)[i]? = some x := by
  have hi := (List.getElem?_eq_some_iff.1 hx).1
  unfold mix
  have hl : ((mkL f c l k).take i).length = i := by rw [List.length_take, mkL_len]; omega
  rw [List.getElem?_append_right (by omega), hl, Nat.sub_self, List.getElem?_drop]
  exact hx
theorem mix_set (f : α → Int → α) (c : α → Nat) {l : List α} (k : Int) {i : Nat} {x : α} (hx : l[i]? = some x) : (mix f c l k i).set i (f x (k + wsum c (l.take i))) = mix f c l k (i + 1) := by
  have hi := (List.getElem?_eq_some_iff.1 hx).1
  have hl : ((mkL f c l k).take i).length = i := by rw [List.length_take, mkL_len]; omega
  have hg := mkL_get f c l k i x hx
  apply List.ext_getElem?
  intro j
  by_cases hj : i = j
  · subst hj
    rw [List.getElem?_set_self (by rw [mix_len]; exact hi)]
    unfold mix
    rw [List.getElem?_append_left (by rw [List.length_take, mkL_len]; omega), List.getElem?_take, if_pos (by omega), hg]
  · rw [List.getElem?_set_ne hj]
    unfold mix
    by_cases hlt : j < i
    · rw [List.getElem?_append_left (by omega), List.getElem?_append_left (by rw [List.length_take, mkL_len]; omega), List.getElem?_take, List.getElem?_take, if_pos hlt, if_pos (by omega)]
    · have hl' : ((mkL f c l k).take (i + 1)).length = i + 1 := by rw [List.length_take, mkL_len]; omega
      rw [List.getElem?_append_right (by omega), List.getElem?_append_right (by omega), hl, hl', List.getElem?_drop, List.getElem?_drop]
      congr 1
      omega
theorem wsum_mul {f g : α → Nat} {m : Nat} (h : ∀ x, f x ≤ m * (1 + g x)) (l : List α) : wsum f l ≤ m * (l.length + wsum g l) := by
  unfold wsum
  induction l with
  | nil => simp
  | cons x l ih =>
    have := h x
    simp only [List.map_cons, List.sum_cons, List.length_cons]
    rw [Nat.mul_add] at *
    rw [Nat.mul_add] at *
    rw [Nat.mul_add]
    omega
theorem wsum_zero (l : List α) : wsum (fun _ => 0) l = 0 := by
  unfold wsum
  induction l with
  | nil => rfl
  | cons x l ih => rw [List.map_cons, List.sum_cons, ih]
theorem turn_cell {w w' : World} {bs : List Nat} (h : Turns bs w w') {b o : Nat} {v : Value} (hb : b < w.heap.size) (hn : b ∉ bs) (hc : w.cell? ⟨b, o, none⟩ = some v) : w'.cell? ⟨b, o, none⟩ = some v := cell_heap hc (h.block b hb hn)
end Go.Proofs.YtnbefpfijaimjaaGreatDoor
/- Marks: what a list or a struct holds when every number that it owns has been set to its place in the count, and how many these are. It speaks of no program. -/
namespace Go.Proofs.YtnbefpfijaimjaaGreatDoor
def mkIntS (l : List Int) (k : Int) : List Int := mk1 l.length k
def cIntS (l : List Int) : Nat := l.length
theorem cIntS_le (l : List Int) : cIntS l ≤ 8 * wIntS l := by unfold cIntS wIntS; omega
def mkVecS (l : List QV) (k : Int) : List QV := mk2 l.length k
def cVecS (l : List QV) : Nat := 2 * l.length
theorem cVecS_le (l : List QV) : cVecS l ≤ 8 * wVecS l := by unfold cVecS wVecS; omega
def mkVecSS (l : List (List QV)) (k : Int) : List (List QV) := mkL mkVecS cVecS l k
def cVecSS (l : List (List QV)) : Nat := wsum cVecS l
theorem cVecSS_le (l : List (List QV)) : cVecSS l ≤ 8 * wVecSS l := by
  unfold cVecSS wVecSS
  exact wsum_mul (f := cVecS) (g := wVecS) (m := 8) (fun x => by have h := cVecS_le x; omega) l
def mkIntSS (l : List (List Int)) (k : Int) : List (List Int) := mkL mkIntS cIntS l k
def cIntSS (l : List (List Int)) : Nat := wsum cIntS l
theorem cIntSS_le (l : List (List Int)) : cIntSS l ≤ 8 * wIntSS l := by
  unfold cIntSS wIntSS
  exact wsum_mul (f := cIntS) (g := wIntS) (m := 8) (fun x => by have h := cIntS_le x; omega) l
def mkBigInt (x : Bool × List Int) (k : Int) : Bool × List Int := (x.1, mkIntS x.2 k)
def cBigInt (x : Bool × List Int) : Nat := cIntS x.2
theorem cBigInt_le (x : Bool × List Int) : cBigInt x ≤ 8 * wBigInt x := by have h0 := cIntS_le x.2; unfold cBigInt wBigInt; omega
def mkRat (x : QR) (k : Int) : QR := (mkBigInt x.1 k, mkIntS x.2 (k + ((cBigInt x.1 : Nat) : Int)))
def cRat (x : QR) : Nat := cBigInt x.1 + cIntS x.2
theorem cRat_le (x : QR) : cRat x ≤ 8 * wRat x := by have h0 := cBigInt_le x.1; have h1 := cIntS_le x.2; unfold cRat wRat; omega
def meRat (x : QR) (k : Int) : QR := (((k % 3 == 0), mkIntS x.1.2 (k + ((1 : Nat) : Int))), mkIntS x.2 (k + ((1 + cIntS x.1.2 : Nat) : Int)))
def ceRat (x : QR) : Nat := 1 + cIntS x.1.2 + cIntS x.2
def mkRatS (l : List (QR)) (k : Int) : List (QR) := mkL meRat ceRat l k
def cRatS (l : List (QR)) : Nat := wsum ceRat l
theorem cRatS_le (l : List (QR)) : cRatS l ≤ 8 * wRatS l := by
  unfold cRatS wRatS
  exact wsum_mul (f := ceRat) (g := wRat) (m := 8) (fun x => by have h1 := cIntS_le x.1.2; have h2 := cIntS_le x.2; unfold ceRat wRat wBigInt; omega) l
def mkPoint (x : QP) (k : Int) : QP := (mkRat x.1 k, mkRat x.2 (k + ((cRat x.1 : Nat) : Int)))
def cPoint (x : QP) : Nat := cRat x.1 + cRat x.2
theorem cPoint_le (x : QP) : cPoint x ≤ 8 * wPoint x := by have h0 := cRat_le x.1; have h1 := cRat_le x.2; unfold cPoint wPoint; omega
def mePoint (x : QP) (k : Int) : QP := ((((k % 3 == 0), mkIntS x.1.1.2 (k + ((1 : Nat) : Int))), mkIntS x.1.2 (k + ((1 + cIntS x.1.1.2 : Nat) : Int))), ((((k + ((1 + cIntS x.1.1.2 + cIntS x.1.2 : Nat) : Int)) % 3 == 0), mkIntS x.2.1.2 (k + ((1 + cIntS x.1.1.2 + cIntS x.1.2 + 1 : Nat) : Int))), mkIntS x.2.2 (k + ((1 + cIntS x.1.1.2 + cIntS x.1.2 + 1 + cIntS x.2.1.2 : Nat) : Int))))
def cePoint (x : QP) : Nat := 1 + cIntS x.1.1.2 + cIntS x.1.2 + 1 + cIntS x.2.1.2 + cIntS x.2.2
def mkPointS (l : List (QP)) (k : Int) : List (QP) := mkL mePoint cePoint l k
def cPointS (l : List (QP)) : Nat := wsum cePoint l
theorem cPointS_le (l : List (QP)) : cPointS l ≤ 8 * wPointS l := by
  unfold cPointS wPointS
  exact wsum_mul (f := cePoint) (g := wPoint) (m := 8) (fun x => by have h1 := cIntS_le x.1.1.2; have h2 := cIntS_le x.1.2; have h4 := cIntS_le x.2.1.2; have h5 := cIntS_le x.2.2; unfold cePoint wPoint wRat wBigInt; omega) l
def meEdge (_x : QE) (k : Int) : QE := ((k, (k + ((1 : Nat) : Int))), ((k + ((1 + 1 : Nat) : Int)), (k + ((1 + 1 + 1 : Nat) : Int))), (k + ((1 + 1 + 1 + 1 : Nat) : Int)), ((k + ((1 + 1 + 1 + 1 + 1 : Nat) : Int)) % 3 == 0))
def ceEdge (_x : QE) : Nat := 1 + 1 + 1 + 1 + 1 + 1
def mkEdgeS (l : List (QE)) (k : Int) : List (QE) := mkL meEdge ceEdge l k
def cEdgeS (l : List (QE)) : Nat := wsum ceEdge l
theorem cEdgeS_le (l : List (QE)) : cEdgeS l ≤ 8 * wEdgeS l := by
  unfold cEdgeS wEdgeS
  have h := wsum_mul (f := ceEdge) (g := fun _ => 0) (m := 6) (fun x => by unfold ceEdge; omega) l
  have h0 := wsum_zero l
  omega
def mkScene (x : QScene) (k : Int) : QScene := (x.1, x.2.1, mkVecS x.2.2.1 k, mkVecSS x.2.2.2.1 (k + ((cVecS x.2.2.1 : Nat) : Int)), mkVecS x.2.2.2.2 (k + ((cVecS x.2.2.1 + cVecSS x.2.2.2.1 : Nat) : Int)))
def cScene (x : QScene) : Nat := cVecS x.2.2.1 + cVecSS x.2.2.2.1 + cVecS x.2.2.2.2
theorem cScene_le (x : QScene) : cScene x ≤ 8 * wScene x := by have h0 := cVecS_le x.2.2.1; have h1 := cVecSS_le x.2.2.2.1; have h2 := cVecS_le x.2.2.2.2; unfold cScene wScene; omega
def mkStep (x : QStep) (k : Int) : QStep := (x.1, mkPoint x.2 k)
def cStep (x : QStep) : Nat := cPoint x.2
theorem cStep_le (x : QStep) : cStep x ≤ 8 * wStep x := by have h0 := cPoint_le x.2; unfold cStep wStep; omega
def meStep (x : QStep) (k : Int) : QStep := (k, (((((k + ((1 : Nat) : Int)) % 3 == 0), mkIntS x.2.1.1.2 (k + ((1 + 1 : Nat) : Int))), mkIntS x.2.1.2 (k + ((1 + 1 + cIntS x.2.1.1.2 : Nat) : Int))), ((((k + ((1 + 1 + cIntS x.2.1.1.2 + cIntS x.2.1.2 : Nat) : Int)) % 3 == 0), mkIntS x.2.2.1.2 (k + ((1 + 1 + cIntS x.2.1.1.2 + cIntS x.2.1.2 + 1 : Nat) : Int))), mkIntS x.2.2.2 (k + ((1 + 1 + cIntS x.2.1.1.2 + cIntS x.2.1.2 + 1 + cIntS x.2.2.1.2 : Nat) : Int)))))
def ceStep (x : QStep) : Nat := 1 + 1 + cIntS x.2.1.1.2 + cIntS x.2.1.2 + 1 + cIntS x.2.2.1.2 + cIntS x.2.2.2
def mkStepS (l : List (QStep)) (k : Int) : List (QStep) := mkL meStep ceStep l k
def cStepS (l : List (QStep)) : Nat := wsum ceStep l
theorem cStepS_le (l : List (QStep)) : cStepS l ≤ 8 * wStepS l := by
  unfold cStepS wStepS
  exact wsum_mul (f := ceStep) (g := wStep) (m := 8) (fun x => by have h2 := cIntS_le x.2.1.1.2; have h3 := cIntS_le x.2.1.2; have h5 := cIntS_le x.2.2.1.2; have h6 := cIntS_le x.2.2.2; unfold ceStep wStep wPoint wRat wBigInt; omega) l
def mkPlacement (x : QPlacement) (k : Int) : QPlacement := (x.1, mkPoint x.2 k)
def cPlacement (x : QPlacement) : Nat := cPoint x.2
theorem cPlacement_le (x : QPlacement) : cPlacement x ≤ 8 * wPlacement x := by have h0 := cPoint_le x.2; unfold cPlacement wPlacement; omega
def mkCell (x : QCell) (k : Int) : QCell := (mkRat x.1 k, mkRat x.2.1 (k + ((cRat x.1 : Nat) : Int)), mkRat x.2.2.1 (k + ((cRat x.1 + cRat x.2.1 : Nat) : Int)), mkRat x.2.2.2.1 (k + ((cRat x.1 + cRat x.2.1 + cRat x.2.2.1 : Nat) : Int)), mkRat x.2.2.2.2.1 (k + ((cRat x.1 + cRat x.2.1 + cRat x.2.2.1 + cRat x.2.2.2.1 : Nat) : Int)), mkRat x.2.2.2.2.2 (k + ((cRat x.1 + cRat x.2.1 + cRat x.2.2.1 + cRat x.2.2.2.1 + cRat x.2.2.2.2.1 : Nat) : Int)))
def cCell (x : QCell) : Nat := cRat x.1 + cRat x.2.1 + cRat x.2.2.1 + cRat x.2.2.2.1 + cRat x.2.2.2.2.1 + cRat x.2.2.2.2.2
theorem cCell_le (x : QCell) : cCell x ≤ 8 * wCell x := by have h0 := cRat_le x.1; have h1 := cRat_le x.2.1; have h2 := cRat_le x.2.2.1; have h3 := cRat_le x.2.2.2.1; have h4 := cRat_le x.2.2.2.2.1; have h5 := cRat_le x.2.2.2.2.2; unfold cCell wCell; omega
def meCell (x : QCell) (k : Int) : QCell := ((((k % 3 == 0), mkIntS x.1.1.2 (k + ((1 : Nat) : Int))), mkIntS x.1.2 (k + ((1 + cIntS x.1.1.2 : Nat) : Int))), ((((k + ((1 + cIntS x.1.1.2 + cIntS x.1.2 : Nat) : Int)) % 3 == 0), mkIntS x.2.1.1.2 (k + ((1 + cIntS x.1.1.2 + cIntS x.1.2 + 1 : Nat) : Int))), mkIntS x.2.1.2 (k + ((1 + cIntS x.1.1.2 + cIntS x.1.2 + 1 + cIntS x.2.1.1.2 : Nat) : Int))), ((((k + ((1 + cIntS x.1.1.2 + cIntS x.1.2 + 1 + cIntS x.2.1.1.2 + cIntS x.2.1.2 : Nat) : Int)) % 3 == 0), mkIntS x.2.2.1.1.2 (k + ((1 + cIntS x.1.1.2 + cIntS x.1.2 + 1 + cIntS x.2.1.1.2 + cIntS x.2.1.2 + 1 : Nat) : Int))), mkIntS x.2.2.1.2 (k + ((1 + cIntS x.1.1.2 + cIntS x.1.2 + 1 + cIntS x.2.1.1.2 + cIntS x.2.1.2 + 1 + cIntS x.2.2.1.1.2 : Nat) : Int))), ((((k + ((1 + cIntS x.1.1.2 + cIntS x.1.2 + 1 + cIntS x.2.1.1.2 + cIntS x.2.1.2 + 1 + cIntS x.2.2.1.1.2 + cIntS x.2.2.1.2 : Nat) : Int)) % 3 == 0), mkIntS x.2.2.2.1.1.2 (k + ((1 + cIntS x.1.1.2 + cIntS x.1.2 + 1 + cIntS x.2.1.1.2 + cIntS x.2.1.2 + 1 + cIntS x.2.2.1.1.2 + cIntS x.2.2.1.2 + 1 : Nat) : Int))), mkIntS x.2.2.2.1.2 (k + ((1 + cIntS x.1.1.2 + cIntS x.1.2 + 1 + cIntS x.2.1.1.2 + cIntS x.2.1.2 + 1 + cIntS x.2.2.1.1.2 + cIntS x.2.2.1.2 + 1 + cIntS x.2.2.2.1.1.2 : Nat) : Int))), ((((k + ((1 + cIntS x.1.1.2 + cIntS x.1.2 + 1 + cIntS x.2.1.1.2 + cIntS x.2.1.2 + 1 + cIntS x.2.2.1.1.2 + cIntS x.2.2.1.2 + 1 + cIntS x.2.2.2.1.1.2 + cIntS x.2.2.2.1.2 : Nat) : Int)) % 3 == 0), mkIntS x.2.2.2.2.1.1.2 (k + ((1 + cIntS x.1.1.2 + cIntS x.1.2 + 1 + cIntS x.2.1.1.2 + cIntS x.2.1.2 + 1 + cIntS x.2.2.1.1.2 + cIntS x.2.2.1.2 + 1 + cIntS x.2.2.2.1.1.2 + cIntS x.2.2.2.1.2 + 1 : Nat) : Int))), mkIntS x.2.2.2.2.1.2 (k + ((1 + cIntS x.1.1.2 + cIntS x.1.2 + 1 + cIntS x.2.1.1.2 + cIntS x.2.1.2 + 1 + cIntS x.2.2.1.1.2 + cIntS x.2.2.1.2 + 1 + cIntS x.2.2.2.1.1.2 + cIntS x.2.2.2.1.2 + 1 + cIntS x.2.2.2.2.1.1.2 : Nat) : Int))), ((((k + ((1 + cIntS x.1.1.2 + cIntS x.1.2 + 1 + cIntS x.2.1.1.2 + cIntS x.2.1.2 + 1 + cIntS x.2.2.1.1.2 + cIntS x.2.2.1.2 + 1 + cIntS x.2.2.2.1.1.2 + cIntS x.2.2.2.1.2 + 1 + cIntS x.2.2.2.2.1.1.2 + cIntS x.2.2.2.2.1.2 : Nat) : Int)) % 3 == 0), mkIntS x.2.2.2.2.2.1.2 (k + ((1 + cIntS x.1.1.2 + cIntS x.1.2 + 1 + cIntS x.2.1.1.2 + cIntS x.2.1.2 + 1 + cIntS x.2.2.1.1.2 + cIntS x.2.2.1.2 + 1 + cIntS x.2.2.2.1.1.2 + cIntS x.2.2.2.1.2 + 1 + cIntS x.2.2.2.2.1.1.2 + cIntS x.2.2.2.2.1.2 + 1 : Nat) : Int))), mkIntS x.2.2.2.2.2.2 (k + ((1 + cIntS x.1.1.2 + cIntS x.1.2 + 1 + cIntS x.2.1.1.2 + cIntS x.2.1.2 + 1 + cIntS x.2.2.1.1.2 + cIntS x.2.2.1.2 + 1 + cIntS x.2.2.2.1.1.2 + cIntS x.2.2.2.1.2 + 1 + cIntS x.2.2.2.2.1.1.2 + cIntS x.2.2.2.2.1.2 + 1 + cIntS x.2.2.2.2.2.1.2 : Nat) : Int))))
def ceCell (x : QCell) : Nat := 1 + cIntS x.1.1.2 + cIntS x.1.2 + 1 + cIntS x.2.1.1.2 + cIntS x.2.1.2 + 1 + cIntS x.2.2.1.1.2 + cIntS x.2.2.1.2 + 1 + cIntS x.2.2.2.1.1.2 + cIntS x.2.2.2.1.2 + 1 + cIntS x.2.2.2.2.1.1.2 + cIntS x.2.2.2.2.1.2 + 1 + cIntS x.2.2.2.2.2.1.2 + cIntS x.2.2.2.2.2.2
def mkCellS (l : List (QCell)) (k : Int) : List (QCell) := mkL meCell ceCell l k
def cCellS (l : List (QCell)) : Nat := wsum ceCell l
theorem cCellS_le (l : List (QCell)) : cCellS l ≤ 8 * wCellS l := by
  unfold cCellS wCellS
  exact wsum_mul (f := ceCell) (g := wCell) (m := 8) (fun x => by have h1 := cIntS_le x.1.1.2; have h2 := cIntS_le x.1.2; have h4 := cIntS_le x.2.1.1.2; have h5 := cIntS_le x.2.1.2; have h7 := cIntS_le x.2.2.1.1.2; have h8 := cIntS_le x.2.2.1.2; have h10 := cIntS_le x.2.2.2.1.1.2; have h11 := cIntS_le x.2.2.2.1.2; have h13 := cIntS_le x.2.2.2.2.1.1.2; have h14 := cIntS_le x.2.2.2.2.1.2; have h16 := cIntS_le x.2.2.2.2.2.1.2; have h17 := cIntS_le x.2.2.2.2.2.2; unfold ceCell wCell wRat wBigInt; omega) l
def mkWall (x : QWall) (k : Int) : QWall := (mkRat x.1 k, mkRat x.2.1 (k + ((cRat x.1 : Nat) : Int)), mkRat x.2.2 (k + ((cRat x.1 + cRat x.2.1 : Nat) : Int)))
def cWall (x : QWall) : Nat := cRat x.1 + cRat x.2.1 + cRat x.2.2
theorem cWall_le (x : QWall) : cWall x ≤ 8 * wWall x := by have h0 := cRat_le x.1; have h1 := cRat_le x.2.1; have h2 := cRat_le x.2.2; unfold cWall wWall; omega
def meWall (x : QWall) (k : Int) : QWall := ((((k % 3 == 0), mkIntS x.1.1.2 (k + ((1 : Nat) : Int))), mkIntS x.1.2 (k + ((1 + cIntS x.1.1.2 : Nat) : Int))), ((((k + ((1 + cIntS x.1.1.2 + cIntS x.1.2 : Nat) : Int)) % 3 == 0), mkIntS x.2.1.1.2 (k + ((1 + cIntS x.1.1.2 + cIntS x.1.2 + 1 : Nat) : Int))), mkIntS x.2.1.2 (k + ((1 + cIntS x.1.1.2 + cIntS x.1.2 + 1 + cIntS x.2.1.1.2 : Nat) : Int))), ((((k + ((1 + cIntS x.1.1.2 + cIntS x.1.2 + 1 + cIntS x.2.1.1.2 + cIntS x.2.1.2 : Nat) : Int)) % 3 == 0), mkIntS x.2.2.1.2 (k + ((1 + cIntS x.1.1.2 + cIntS x.1.2 + 1 + cIntS x.2.1.1.2 + cIntS x.2.1.2 + 1 : Nat) : Int))), mkIntS x.2.2.2 (k + ((1 + cIntS x.1.1.2 + cIntS x.1.2 + 1 + cIntS x.2.1.1.2 + cIntS x.2.1.2 + 1 + cIntS x.2.2.1.2 : Nat) : Int))))
def ceWall (x : QWall) : Nat := 1 + cIntS x.1.1.2 + cIntS x.1.2 + 1 + cIntS x.2.1.1.2 + cIntS x.2.1.2 + 1 + cIntS x.2.2.1.2 + cIntS x.2.2.2
def mkWallS (l : List (QWall)) (k : Int) : List (QWall) := mkL meWall ceWall l k
def cWallS (l : List (QWall)) : Nat := wsum ceWall l
theorem cWallS_le (l : List (QWall)) : cWallS l ≤ 8 * wWallS l := by
  unfold cWallS wWallS
  exact wsum_mul (f := ceWall) (g := wWall) (m := 8) (fun x => by have h1 := cIntS_le x.1.1.2; have h2 := cIntS_le x.1.2; have h4 := cIntS_le x.2.1.1.2; have h5 := cIntS_le x.2.1.2; have h7 := cIntS_le x.2.2.1.2; have h8 := cIntS_le x.2.2.2; unfold ceWall wWall wRat wBigInt; omega) l
def meDoor (_x : QDoor) (k : Int) : QDoor := (k, (k + ((1 : Nat) : Int)))
def ceDoor (_x : QDoor) : Nat := 1 + 1
def mkDoorS (l : List (QDoor)) (k : Int) : List (QDoor) := mkL meDoor ceDoor l k
def cDoorS (l : List (QDoor)) : Nat := wsum ceDoor l
theorem cDoorS_le (l : List (QDoor)) : cDoorS l ≤ 8 * wDoorS l := by
  unfold cDoorS wDoorS
  have h := wsum_mul (f := ceDoor) (g := fun _ => 0) (m := 2) (fun x => by unfold ceDoor; omega) l
  have h0 := wsum_zero l
  omega
def mkSlice (x : QSlice) (k : Int) : QSlice := (x.1, x.2.1, x.2.2.1, mkVecSS x.2.2.2.1 k, mkCellS x.2.2.2.2.1 (k + ((cVecSS x.2.2.2.1 : Nat) : Int)), mkWallS x.2.2.2.2.2.1 (k + ((cVecSS x.2.2.2.1 + cCellS x.2.2.2.2.1 : Nat) : Int)), mkDoorS x.2.2.2.2.2.2.1 (k + ((cVecSS x.2.2.2.1 + cCellS x.2.2.2.2.1 + cWallS x.2.2.2.2.2.1 : Nat) : Int)), mkIntS x.2.2.2.2.2.2.2 (k + ((cVecSS x.2.2.2.1 + cCellS x.2.2.2.2.1 + cWallS x.2.2.2.2.2.1 + cDoorS x.2.2.2.2.2.2.1 : Nat) : Int)))
def cSlice (x : QSlice) : Nat := cVecSS x.2.2.2.1 + cCellS x.2.2.2.2.1 + cWallS x.2.2.2.2.2.1 + cDoorS x.2.2.2.2.2.2.1 + cIntS x.2.2.2.2.2.2.2
theorem cSlice_le (x : QSlice) : cSlice x ≤ 8 * wSlice x := by have h0 := cVecSS_le x.2.2.2.1; have h1 := cCellS_le x.2.2.2.2.1; have h2 := cWallS_le x.2.2.2.2.2.1; have h3 := cDoorS_le x.2.2.2.2.2.2.1; have h4 := cIntS_le x.2.2.2.2.2.2.2; unfold cSlice wSlice; omega
def meSlice (x : QSlice) (k : Int) : QSlice := (k, ((k + ((1 : Nat) : Int)) % 3 == 0), (((k + ((1 + 1 : Nat) : Int)), (k + ((1 + 1 + 1 : Nat) : Int))), ((k + ((1 + 1 + 1 + 1 : Nat) : Int)), (k + ((1 + 1 + 1 + 1 + 1 : Nat) : Int)))), mkVecSS x.2.2.2.1 (k + ((1 + 1 + 1 + 1 + 1 + 1 : Nat) : Int)), mkCellS x.2.2.2.2.1 (k + ((1 + 1 + 1 + 1 + 1 + 1 + cVecSS x.2.2.2.1 : Nat) : Int)), mkWallS x.2.2.2.2.2.1 (k + ((1 + 1 + 1 + 1 + 1 + 1 + cVecSS x.2.2.2.1 + cCellS x.2.2.2.2.1 : Nat) : Int)), mkDoorS x.2.2.2.2.2.2.1 (k + ((1 + 1 + 1 + 1 + 1 + 1 + cVecSS x.2.2.2.1 + cCellS x.2.2.2.2.1 + cWallS x.2.2.2.2.2.1 : Nat) : Int)), mkIntS x.2.2.2.2.2.2.2 (k + ((1 + 1 + 1 + 1 + 1 + 1 + cVecSS x.2.2.2.1 + cCellS x.2.2.2.2.1 + cWallS x.2.2.2.2.2.1 + cDoorS x.2.2.2.2.2.2.1 : Nat) : Int)))
def ceSlice (x : QSlice) : Nat := 1 + 1 + 1 + 1 + 1 + 1 + cVecSS x.2.2.2.1 + cCellS x.2.2.2.2.1 + cWallS x.2.2.2.2.2.1 + cDoorS x.2.2.2.2.2.2.1 + cIntS x.2.2.2.2.2.2.2
def mkSliceS (l : List (QSlice)) (k : Int) : List (QSlice) := mkL meSlice ceSlice l k
def cSliceS (l : List (QSlice)) : Nat := wsum ceSlice l
theorem cSliceS_le (l : List (QSlice)) : cSliceS l ≤ 8 * wSliceS l := by
  unfold cSliceS wSliceS
  exact wsum_mul (f := ceSlice) (g := wSlice) (m := 8) (fun x => by have h6 := cVecSS_le x.2.2.2.1; have h7 := cCellS_le x.2.2.2.2.1; have h8 := cWallS_le x.2.2.2.2.2.1; have h9 := cDoorS_le x.2.2.2.2.2.2.1; have h10 := cIntS_le x.2.2.2.2.2.2.2; unfold ceSlice wSlice; omega) l
def mkRoad (x : QRoad) (k : Int) : QRoad := (mkScene x.1 k, mkSliceS x.2.1 (k + ((cScene x.1 : Nat) : Int)), mkIntS x.2.2.1 (k + ((cScene x.1 + cSliceS x.2.1 : Nat) : Int)), mkIntSS x.2.2.2 (k + ((cScene x.1 + cSliceS x.2.1 + cIntS x.2.2.1 : Nat) : Int)))
def cRoad (x : QRoad) : Nat := cScene x.1 + cSliceS x.2.1 + cIntS x.2.2.1 + cIntSS x.2.2.2
theorem cRoad_le (x : QRoad) : cRoad x ≤ 8 * wRoad x := by have h0 := cScene_le x.1; have h1 := cSliceS_le x.2.1; have h2 := cIntS_le x.2.2.1; have h3 := cIntSS_le x.2.2.2; unfold cRoad wRoad; omega
end Go.Proofs.YtnbefpfijaimjaaGreatDoor
/- Marks of lists of numbers and of vectors, in the words of the other kinds. -/
namespace Go.Proofs.YtnbefpfijaimjaaGreatDoor
open Go.RowKit
variable {α : Type}
theorem mk_eq {S : Ty α} {bs : List Nat} {w : World} {cs : List Value} {x y : α} (h : S.own bs w cs x) (e : y = x) : S.own bs w cs y := by rw [e]; exact h
theorem mk_at {S : Ty α} {w : World} {cs : List Value} {x y : α} (h : S.at w cs x) (e : x = y) : S.at w cs y := by rw [← e]; exact h
theorem at_split {β : Type} {A : Ty α} {B : Ty β} {w : World} {c1 c2 cs : List Value} {x : α × β} (h : (tProd A B).at w cs x) (e : cs = c1 ++ c2) (hl : c1.length = A.size := by rfl) : A.at w c1 x.1 ∧ B.at w c2 x.2 := by
  obtain ⟨d1, d2, h1, h2, h3⟩ := h
  have l1 := A.len h2
  rw [e] at h1
  obtain ⟨rfl, rfl⟩ := List.append_inj h1 (by rw [hl, l1])
  exact ⟨h2, h3⟩
theorem laws_markIntS_ (bs : List Nat) (v : Value) (l : List Int) (q : Int) (w : World) (hv : tInts.own bs w [v] l) (_ : bs.Nodup) (h0 : 0 ≤ q) (h1 : q + (cIntS l : Nat) ≤ 1000000000) (hl : wIntS l ≤ 1048576) :
    Calls Tryz.prog 51 #[v, .int .i64 q] w fun e w' => e = .returned (.int .i64 (q + (cIntS l : Nat))) ∧ Turns bs w w' ∧ tInts.own bs w' [v] (mkIntS l q) :=
  laws_markIntS bs v l q w hv h0 (by omega) hl
theorem laws_heldIntS_ (v : Value) (l : List Int) (q : Int) (w : World) (hv : tInts.at w [v] (mkIntS l q)) (h0 : 0 ≤ q) (h1 : q + (cIntS l : Nat) ≤ 1000000000) (hl : wIntS l ≤ 1048576) :
    Calls Tryz.prog 53 #[v, .int .i64 q] w fun e w' => e = .returned (.int .i64 (q + (cIntS l : Nat))) ∧ More w w' :=
  laws_heldIntS v l.length q w hv h0 (by omega) hl
end Go.Proofs.YtnbefpfijaimjaaGreatDoor
/- markBigInt, heldBigInt: marks in what a value owns. -/
namespace Go.Proofs.YtnbefpfijaimjaaGreatDoor
open Go.RowKit
set_option maxHeartbeats 3200000 in
theorem laws_markBigInt_ (bs : List Nat) (cs : List Value) (x : Bool × List Int) (q : Int) (w : World) (hv : tBig.own bs w cs x) (hnd : bs.Nodup) (h0 : 0 ≤ q) (h1 : q + (cBigInt x : Nat) ≤ 1000000000) (hl : wBigInt x ≤ 1048576) :
    Calls Tryz.prog 50 #[.agg cs.toArray, .int .i64 q] w fun e w' => e = .returned (.int .i64 (q + (cBigInt x : Nat))) ∧ Turns bs w w' ∧ tBig.own bs w' cs (mkBigInt x q) := by
  obtain ⟨b0, d0, c0, e0, rfl, rfl, f0, g0⟩ := hv
  obtain ⟨rfl, rfl⟩ := f0
  obtain ⟨z1a0, z1n0, z1c0, rfl⟩ := sh_slice (Ty.rd_at ((tSlice _).own_rd g0))
  have hnb_ : (d0).Nodup := by simpa [List.append_assoc] using hnd
  have n0_ := hnb_; clear hnb_
  have nb1 : w.heap.size ∉ d0 := fun h => by have := tInts.own_lt g0 _ h; omega
  have O1 := Lib.hid (Ty.own_more g0 (Turns.more ((Turns.refl [] w).alloc (.cells #[.bool x.1, .slice z1a0 z1n0 z1c0] 24)))); clear g0
  have HL := Lib.hid hl; clear hl; have HC : Hid (cBigInt x = cIntS x.2) := Lib.hid rfl
  have hC := HC.out; rw [hC] at h1; clear hC
  show Calls Tryz.prog 50 #[.agg #[.bool x.1, .slice z1a0 z1n0 z1c0], .int .i64 q] w _
  go_enter Tryz.func50, Tryz.ntmps50
  go_wp2_with fail
  refine (laws_markIntS_ d0 _ x.2 _ _ O1.out n0_ (by omega) (by omega) (by have := HL.out; unfold wBigInt at this; omega)).mono ?_
  rintro e w1 ⟨rfl, T1, P1⟩
  have O1x := Lib.hid P1; clear P1 O1; have O1 := O1x; clear O1x
  have hz1 : w.heap.size < w1.heap.size := by have := T1.size; (try simp at this); omega
  go_wp2_with fail
  go_ret
  exact ⟨ret_int (by rw [HC.out]; try omega), (((Turns.refl _ w).alloc _).trans (T1.mono (fun k hk => by simp [hk]))), ⟨[], d0, [.bool x.1], [.slice z1a0 z1n0 z1c0], rfl, rfl, ⟨rfl, rfl⟩, (mk_eq O1.out (by first | rfl | simp only [mkBigInt, Int.natCast_add, Int.add_assoc]))⟩⟩
set_option maxHeartbeats 3200000 in
theorem laws_heldBigInt_ (cs : List Value) (x : Bool × List Int) (q : Int) (w : World) (hv : tBig.at w cs (mkBigInt x q)) (h0 : 0 ≤ q) (h1 : q + (cBigInt x : Nat) ≤ 1000000000) (hl : wBigInt x ≤ 1048576) :
    Calls Tryz.prog 52 #[.agg cs.toArray, .int .i64 q] w fun e w' => e = .returned (.int .i64 (q + (cBigInt x : Nat))) ∧ More w w' := by
  obtain ⟨k0, d0, rfl, f0, e0⟩ := at_prod hv
  have f1 := e0; clear e0
  obtain rfl := sh_bool f0
  obtain ⟨z1a0, z1n0, z1c0, rfl⟩ := sh_slice f1
  have F1 := Lib.hid (mk_at (y := mkIntS x.2 (q)) f1 (by first | rfl | simp only [mkBigInt, Int.natCast_add, Int.add_assoc])); clear f1
  have HL := Lib.hid hl; clear hl; have HC : Hid (cBigInt x = cIntS x.2) := Lib.hid rfl
  have hC := HC.out; rw [hC] at h1; clear hC
  show Calls Tryz.prog 52 #[.agg #[.bool x.1, .slice z1a0 z1n0 z1c0], .int .i64 q] w _
  have HX : More (w.alloc (.cells #[.bool x.1, .slice z1a0 z1n0 z1c0] 24)) (w.alloc (.cells #[.bool x.1, .slice z1a0 z1n0 z1c0] 24)) := More.refl _
  have HB : ∀ w', More (w.alloc (.cells #[.bool x.1, .slice z1a0 z1n0 z1c0] 24)) w' → w'.cell? ⟨w.heap.size, 0, none⟩ = some (.bool x.1) ∧ w'.cell? ⟨w.heap.size, 1, none⟩ = some (.slice z1a0 z1n0 z1c0) ∧ (∀ j, w'.frozen? ⟨w.heap.size, j, none⟩ = false) := fun w' h => ⟨box_new (by simp) h 0, box_new (by simp) h 1, fun j => box_free (by simp) h j⟩
  go_enter Tryz.func52, Tryz.ntmps52
  go_wp2_with fail
  refine (laws_heldIntS_ _ x.2 _ _ (Ty.at_more F1.out mC) (by omega) (by omega) (by have := HL.out; unfold wBigInt at this; omega)).mono ?_
  rintro e w1 ⟨rfl, hb1⟩; have HX : More (w.alloc (.cells #[.bool x.1, .slice z1a0 z1n0 z1c0] 24)) _ := More.trans (by assumption) hb1; have HBw := HB _ HX
  have g0 : ¬ (q + ((cIntS x.2 : Nat) : Int) < 0) := by omega
  go_wp2_with fail
  go_ret
  exact ⟨ret_int (by rw [HC.out]; try omega), mC⟩
end Go.Proofs.YtnbefpfijaimjaaGreatDoor
/- markRat, heldRat: marks in what a value owns. -/
namespace Go.Proofs.YtnbefpfijaimjaaGreatDoor
open Go.RowKit
set_option maxHeartbeats 3200000 in
theorem laws_markRat_ (bs : List Nat) (cs : List Value) (x : QR) (q : Int) (w : World) (hv : tRat.own bs w cs x) (hnd : bs.Nodup) (h0 : 0 ≤ q) (h1 : q + (cRat x : Nat) ≤ 1000000000) (hl : wRat x ≤ 1048576) :
    Calls Tryz.prog 26 #[.agg cs.toArray, .int .i64 q] w fun e w' => e = .returned (.int .i64 (q + (cRat x : Nat))) ∧ Turns bs w w' ∧ tRat.own bs w' cs (mkRat x q) := by
  obtain ⟨b0, d0, c0, e0, rfl, rfl, f0, g0⟩ := hv
  obtain ⟨z0a1, z0n1, z0c1, rfl⟩ := sh_BigInt (Ty.rd_at (tBig.own_rd f0))
  obtain ⟨z1a0, z1n0, z1c0, rfl⟩ := sh_slice (Ty.rd_at ((tSlice _).own_rd g0))
  have hnb_ : (b0 ++ (d0)).Nodup := by simpa [List.append_assoc] using hnd
  simp only [List.nodup_append] at hnb_
  obtain ⟨n0_, n1_, d0_⟩ := hnb_
  have nb0 : w.heap.size ∉ b0 := fun h => by have := tBig.own_lt f0 _ h; omega
  have O0 := Lib.hid (Ty.own_more f0 (Turns.more ((Turns.refl [] w).alloc (.cells #[.bool x.1.1, .slice z0a1 z0n1 z0c1, .slice z1a0 z1n0 z1c0] 26)))); clear f0
  have nb1 : w.heap.size ∉ d0 := fun h => by have := tInts.own_lt g0 _ h; omega
  have O1 := Lib.hid (Ty.own_more g0 (Turns.more ((Turns.refl [] w).alloc (.cells #[.bool x.1.1, .slice z0a1 z0n1 z0c1, .slice z1a0 z1n0 z1c0] 26)))); clear g0
  have HL := Lib.hid hl; clear hl; have HC : Hid (cRat x = cBigInt x.1 + cIntS x.2) := Lib.hid rfl
  have hC := HC.out; rw [hC] at h1; clear hC
  show Calls Tryz.prog 26 #[.agg #[.bool x.1.1, .slice z0a1 z0n1 z0c1, .slice z1a0 z1n0 z1c0], .int .i64 q] w _
  go_enter Tryz.func26, Tryz.ntmps26
  go_wp2_with fail
  refine (laws_markBigInt_ b0 _ x.1 _ _ O0.out n0_ (by omega) (by omega) (by have := HL.out; unfold wRat at this; omega)).mono ?_
  rintro e w1 ⟨rfl, T1, P0⟩
  have O0x := Lib.hid P0; clear P0 O0; have O0 := O0x; clear O0x
  have O1x := Lib.hid (Ty.own_turns O1.out T1 (fun k hk hk' => d0_ k hk' k (by simp [hk]) rfl)); clear O1; have O1 := O1x; clear O1x
  have k1_1_0 : w1.cell? ⟨w.heap.size, 2, none⟩ = some (.slice z1a0 z1n0 z1c0) := turn_cell T1 (by simp) nb0 (box_new rfl (More.refl _) 2)
  have hz1 : w.heap.size < w1.heap.size := by have := T1.size; (try simp at this); omega
  go_wp2_with fail
  refine (laws_markIntS_ d0 _ x.2 _ _ O1.out n1_ (by omega) (by omega) (by have := HL.out; unfold wRat at this; omega)).mono ?_
  rintro e w2 ⟨rfl, T2, P1⟩
  have O0x := Lib.hid (Ty.own_turns O0.out T2 (fun k hk hk' => d0_ k hk k (by simp [hk']) rfl)); clear O0; have O0 := O0x; clear O0x
  have O1x := Lib.hid P1; clear P1 O1; have O1 := O1x; clear O1x
  have hz2 : w.heap.size < w2.heap.size := by have := T2.size; (try simp at this); omega
  go_wp2_with fail
  go_ret
  exact ⟨ret_int (by rw [HC.out]; try omega), ((((Turns.refl _ w).alloc _).trans (T1.mono (fun k hk => by simp [hk]))).trans (T2.mono (fun k hk => by simp [hk]))), ⟨b0, d0, [.bool x.1.1, .slice z0a1 z0n1 z0c1], [.slice z1a0 z1n0 z1c0], rfl, rfl, (mk_eq O0.out (by first | rfl | simp only [mkRat, Int.natCast_add, Int.add_assoc])), (mk_eq O1.out (by first | rfl | simp only [mkRat, Int.natCast_add, Int.add_assoc]))⟩⟩
set_option maxHeartbeats 3200000 in
theorem laws_heldRat_ (cs : List Value) (x : QR) (q : Int) (w : World) (hv : tRat.at w cs (mkRat x q)) (h0 : 0 ≤ q) (h1 : q + (cRat x : Nat) ≤ 1000000000) (hl : wRat x ≤ 1048576) :
    Calls Tryz.prog 27 #[.agg cs.toArray, .int .i64 q] w fun e w' => e = .returned (.int .i64 (q + (cRat x : Nat))) ∧ More w w' := by
  obtain ⟨k0, d0, rfl, f0, e0⟩ := at_prod hv
  have f1 := e0; clear e0
  obtain ⟨z0a1, z0n1, z0c1, rfl⟩ := sh_BigInt f0
  have F0 := Lib.hid (mk_at (y := mkBigInt x.1 (q)) f0 (by first | rfl | simp only [mkRat, Int.natCast_add, Int.add_assoc])); clear f0
  obtain ⟨z1a0, z1n0, z1c0, rfl⟩ := sh_slice f1
  have F1 := Lib.hid (mk_at (y := mkIntS x.2 (q + ((cBigInt x.1 : Nat) : Int))) f1 (by first | rfl | simp only [mkRat, Int.natCast_add, Int.add_assoc])); clear f1
  have HL := Lib.hid hl; clear hl; have HC : Hid (cRat x = cBigInt x.1 + cIntS x.2) := Lib.hid rfl
  have hC := HC.out; rw [hC] at h1; clear hC
  show Calls Tryz.prog 27 #[.agg #[.bool x.1.1, .slice z0a1 z0n1 z0c1, .slice z1a0 z1n0 z1c0], .int .i64 q] w _
  have HX : More (w.alloc (.cells #[.bool x.1.1, .slice z0a1 z0n1 z0c1, .slice z1a0 z1n0 z1c0] 26)) (w.alloc (.cells #[.bool x.1.1, .slice z0a1 z0n1 z0c1, .slice z1a0 z1n0 z1c0] 26)) := More.refl _
  have HB : ∀ w', More (w.alloc (.cells #[.bool x.1.1, .slice z0a1 z0n1 z0c1, .slice z1a0 z1n0 z1c0] 26)) w' → w'.cell? ⟨w.heap.size, 0, none⟩ = some (.bool x.1.1) ∧ w'.cell? ⟨w.heap.size, 1, none⟩ = some (.slice z0a1 z0n1 z0c1) ∧ w'.cell? ⟨w.heap.size, 2, none⟩ = some (.slice z1a0 z1n0 z1c0) ∧ (∀ j, w'.frozen? ⟨w.heap.size, j, none⟩ = false) := fun w' h => ⟨box_new (by simp) h 0, box_new (by simp) h 1, box_new (by simp) h 2, fun j => box_free (by simp) h j⟩
  go_enter Tryz.func27, Tryz.ntmps27
  go_wp2_with fail
  refine (laws_heldBigInt_ _ x.1 _ _ (Ty.at_more F0.out mC) (by omega) (by omega) (by have := HL.out; unfold wRat at this; omega)).mono ?_
  rintro e w1 ⟨rfl, hb1⟩; have HX : More (w.alloc (.cells #[.bool x.1.1, .slice z0a1 z0n1 z0c1, .slice z1a0 z1n0 z1c0] 26)) _ := More.trans (by assumption) hb1; have HBw := HB _ HX
  have g0 : ¬ (q + ((cBigInt x.1 : Nat) : Int) < 0) := by omega
  go_wp2_with fail
  refine (laws_heldIntS_ _ x.2 _ _ (Ty.at_more F1.out mC) (by omega) (by omega) (by have := HL.out; unfold wRat at this; omega)).mono ?_
  rintro e w2 ⟨rfl, hb1⟩; have HX : More (w.alloc (.cells #[.bool x.1.1, .slice z0a1 z0n1 z0c1, .slice z1a0 z1n0 z1c0] 26)) _ := More.trans (by assumption) hb1; have HBw := HB _ HX
  have g1 : ¬ (q + ((cBigInt x.1 : Nat) : Int) + ((cIntS x.2 : Nat) : Int) < 0) := by omega
  go_wp2_with fail
  go_ret
  exact ⟨ret_int (by rw [HC.out]; try omega), mC⟩
end Go.Proofs.YtnbefpfijaimjaaGreatDoor
