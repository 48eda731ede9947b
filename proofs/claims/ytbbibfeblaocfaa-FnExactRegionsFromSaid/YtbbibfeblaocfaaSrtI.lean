/- slices.Sort of ints: the shelf's contract at this program; a row of the call's own stays one. -/
import Derived.Shelf.Sort.Plain
import Derived.Sort.OwnSortedInts
import Derived.Lib.OwnBridge
import Derived.Test.YtbbibfeblaocfaaApp
import Derived.Test.YtbbibfeblaocfaaGVec
namespace Go.Proofs.Ytbbibfeblaocfaa
open Go.RowKit Go.Shelf Go.Sort
def laysSort_ren : Go.Shelf.Ren := ⟨fun | 189 => 120 | 125 => 157 | 257 => 156 | 128 => 179 | 129 => 180 | 294 => 170 | 295 => 171 | 296 => 172 | 297 => 173 | 298 => 174 | 299 => 175 | 216 => 176 | 300 => 177 | 301 => 178 | 328 => 181 | 329 => 182 | 330 => 183 | 331 => 184 | 332 => 185 | 215 => 186 | 343 => 187 | n => n, fun | 28 => 26 | 3 => 3 | 46 => 171 | 0 => 0 | 51 => 202 | 53 => 204 | 4 => 4 | 183 => 194 | 182 => 193 | 131 => 199 | 5 => 5 | 9 => 9 | 218 => 205 | 222 => 209 | 228 => 211 | 229 => 212 | n => n, fun | n => n⟩
theorem laysSort : Lays.n189 Try.prog laysSort_ren where
  mixed := by kernel_rfl
  f125 := Try.func157.trans (congrArg some (by kernel_rfl))
  f128 := Try.func179.trans (congrArg some (by kernel_rfl))
  f129 := Try.func180.trans (congrArg some (by kernel_rfl))
  f189 := Try.func120.trans (congrArg some (by kernel_rfl))
  f215 := Try.func186.trans (congrArg some (by kernel_rfl))
  f216 := Try.func176.trans (congrArg some (by kernel_rfl))
  f257 := Try.func156.trans (congrArg some (by kernel_rfl))
  f294 := Try.func170.trans (congrArg some (by kernel_rfl))
  f295 := Try.func171.trans (congrArg some (by kernel_rfl))
  f296 := Try.func172.trans (congrArg some (by kernel_rfl))
  f297 := Try.func173.trans (congrArg some (by kernel_rfl))
  f298 := Try.func174.trans (congrArg some (by kernel_rfl))
  f299 := Try.func175.trans (congrArg some (by kernel_rfl))
  f300 := Try.func177.trans (congrArg some (by kernel_rfl))
  f301 := Try.func178.trans (congrArg some (by kernel_rfl))
  f328 := Try.func181.trans (congrArg some (by kernel_rfl))
  f329 := Try.func182.trans (congrArg some (by kernel_rfl))
  f330 := Try.func183.trans (congrArg some (by kernel_rfl))
  f331 := Try.func184.trans (congrArg some (by kernel_rfl))
  f332 := Try.func185.trans (congrArg some (by kernel_rfl))
  f343 := Try.func187.trans (congrArg some (by kernel_rfl))
  t0 := Try.underlying0
  a0 := Try.isAgg0
  z0 := Try.sizeOf0
  v0 := Try.zeroValue0
  t3 := Try.underlying3
  a3 := Try.isAgg3
  z3 := Try.sizeOf3
  v3 := Try.zeroValue3
  t4 := Try.underlying4
  a4 := Try.isAgg4
  z4 := Try.sizeOf4
  v4 := Try.zeroValue4
  t5 := Try.underlying5
  a5 := Try.isAgg5
  z5 := Try.sizeOf5
  v5 := Try.zeroValue5
  t9 := Try.underlying9
  a9 := Try.isAgg9
  z9 := Try.sizeOf9
  v9 := Try.zeroValue9
  t28 := Try.underlying26
  a28 := Try.isAgg26
  z28 := Try.sizeOf26
  v28 := Try.zeroValue26
  t46 := Try.underlying171
  a46 := Try.isAgg171
  z46 := Try.sizeOf171
  v46 := Try.zeroValue171
  t51 := Try.underlying202
  a51 := Try.isAgg202
  z51 := Try.sizeOf202
  v51 := Try.zeroValue202
  t53 := Try.underlying204
  a53 := Try.isAgg204
  z53 := Try.sizeOf204
  v53 := Try.zeroValue204
  t131 := Try.underlying199
  a131 := Try.isAgg199
  z131 := Try.sizeOf199
  v131 := Try.zeroValue199
  t182 := Try.underlying193
  a182 := Try.isAgg193
  z182 := Try.sizeOf193
  v182 := Try.zeroValue193
  t183 := Try.underlying194
  a183 := Try.isAgg194
  z183 := Try.sizeOf194
  v183 := Try.zeroValue194
  t218 := Try.underlying205
  a218 := Try.isAgg205
  z218 := Try.sizeOf205
  v218 := Try.zeroValue205
  t222 := Try.underlying209
  a222 := Try.isAgg209
  z222 := Try.sizeOf209
  v222 := Try.zeroValue209
  t228 := Try.underlying211
  a228 := Try.isAgg211
  z228 := Try.sizeOf211
  v228 := Try.zeroValue211
  t229 := Try.underlying212
  a229 := Try.isAgg212
  z229 := Try.sizeOf212
  v229 := Try.zeroValue212

theorem FlatOwn.mono {α : Type} {S : Ty α} {F : Flat S} {B B' : Nat} {e : TypeId} {w : World} {v : Value} {l : List α} (h : FlatOwn F B e w v l) (hb : B' ≤ B) : FlatOwn F B' e w v l := by
  obtain ⟨⟨h1, h2⟩, h3⟩ := h
  refine ⟨⟨h1, ?_⟩, h3⟩
  rcases h2 with h2 | ⟨g, cap, cur, e1, e2, e3⟩
  · exact .inl h2
  · exact .inr ⟨g, cap, cur, e1, by omega, e3⟩
theorem FlatOwn.turns {α : Type} {S : Ty α} {F : Flat S} {B : Nat} {e : TypeId} {w w' : World} {bs : List Nat} {v : Value} {l : List α} (h : FlatOwn F B e w v l) (hm : Turns bs w w') (hd : ∀ g, v.ownBlock = some g → g ∉ bs) : FlatOwn F B e w' v l := ⟨ownsRow_turns h.1 hm hd, h.2⟩
set_option maxHeartbeats 800000 in
theorem sort_own (v : Value) (l : List Int) (B : Nat) (w : World) (h : FlatOwn fInt B 3 w v l) (h0 : 0 < l.length) (hl : l.length ≤ 2097152) (hB : B ≤ w.heap.size) :
    Calls Try.prog 120 #[v] w fun e w' => e = .returned (.tuple #[]) ∧ FlatOwn fInt B 3 w' v (l.mergeSort fun x y => decide (x ≤ y)) ∧ Below B w w' := by
  obtain ⟨⟨h1, h2⟩, hok⟩ := h
  rw [flatMap_fInt] at h1 h2
  rcases h2 with ⟨_, h9⟩ | ⟨g, cap, cur, rfl, q1, q2, q3, q4, q5, q6⟩
  · omega
  have hH := Lib.holds_of_ownsRow (enc := Value.int .i64) (w := w) (base := B) (e := 3) (v := .slice (some ⟨g, 0, none⟩) l.length cap) (n := l.length) (zs := l) ⟨h1, .inr ⟨g, cap, cur, rfl, q1, q2, q3, q4, q5, q6⟩⟩ (by intro e; cases e)
  obtain ⟨g', cap', e9, -, hgl, -, -, -, hH⟩ := hH
  cases e9
  refine (Any.slices_Sort_int laysSort g 0 cap l w hH hgl (by omega)).mono ?_
  rintro e w' ⟨rfl, n, os, rfl⟩
  refine ⟨rfl, ⟨?_, fun y hy => hok y ((List.mergeSort_perm l _).mem_iff.1 hy)⟩, ?_⟩
  · rw [flatMap_fInt, List.length_mergeSort]
    exact ownsRow_sortedI (ss := l) (List.length_mergeSort l) q1 q2 q3 q4 q5
  · exact Below.grown (Below.refl _ _) (grownBy_sortedI _) hB (fun k hk => by cases hk; exact q1)
end Go.Proofs.Ytbbibfeblaocfaa
