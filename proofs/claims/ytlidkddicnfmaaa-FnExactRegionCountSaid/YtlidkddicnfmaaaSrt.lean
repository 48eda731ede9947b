/- slices.Sort, slices.Compact, slices.Clone of ints: the shelf's contracts at this program. How many elements stay when a sorted list is compacted. -/
import Derived.Shelf.Sort.Plain
import Derived.Shelf.Slices.CompactI
import Derived.Shelf.Slices.Clone
import Derived.Shelf.Slices.In.SortNone
import Derived.Sort.OwnSortedInts
import Derived.Lib.OwnBridge
import Derived.Test.YtlidkddicnfmaaaGVec
import Derived.Test.YtlidkddicnfmaaaGBase
import Derived.Test.YtlidkddicnfmaaaNd
namespace Go.Proofs.Ytlidkddicnfmaaa
open Go.RowKit Go.Shelf Go.Sort
def laysSort_ren : Go.Shelf.Ren := ⟨fun | 189 => 122 | 125 => 162 | 257 => 161 | 128 => 186 | 129 => 187 | 294 => 177 | 295 => 178 | 296 => 179 | 297 => 180 | 298 => 181 | 299 => 182 | 216 => 183 | 300 => 184 | 301 => 185 | 328 => 191 | 329 => 192 | 330 => 193 | 331 => 194 | 332 => 195 | 215 => 196 | 343 => 197 | n => n, fun | 28 => 38 | 3 => 3 | 46 => 165 | 0 => 0 | 51 => 203 | 53 => 205 | 4 => 4 | 183 => 195 | 182 => 194 | 131 => 200 | 5 => 5 | 9 => 9 | 218 => 209 | 222 => 213 | 228 => 215 | 229 => 216 | n => n, fun | n => n⟩
theorem laysSort : Lays.n189 Try.prog laysSort_ren where
  mixed := by kernel_rfl
  f125 := Try.func162.trans (congrArg some (by kernel_rfl))
  f128 := Try.func186.trans (congrArg some (by kernel_rfl))
  f129 := Try.func187.trans (congrArg some (by kernel_rfl))
  f189 := Try.func122.trans (congrArg some (by kernel_rfl))
  f215 := Try.func196.trans (congrArg some (by kernel_rfl))
  f216 := Try.func183.trans (congrArg some (by kernel_rfl))
  f257 := Try.func161.trans (congrArg some (by kernel_rfl))
  f294 := Try.func177.trans (congrArg some (by kernel_rfl))
  f295 := Try.func178.trans (congrArg some (by kernel_rfl))
  f296 := Try.func179.trans (congrArg some (by kernel_rfl))
  f297 := Try.func180.trans (congrArg some (by kernel_rfl))
  f298 := Try.func181.trans (congrArg some (by kernel_rfl))
  f299 := Try.func182.trans (congrArg some (by kernel_rfl))
  f300 := Try.func184.trans (congrArg some (by kernel_rfl))
  f301 := Try.func185.trans (congrArg some (by kernel_rfl))
  f328 := Try.func191.trans (congrArg some (by kernel_rfl))
  f329 := Try.func192.trans (congrArg some (by kernel_rfl))
  f330 := Try.func193.trans (congrArg some (by kernel_rfl))
  f331 := Try.func194.trans (congrArg some (by kernel_rfl))
  f332 := Try.func195.trans (congrArg some (by kernel_rfl))
  f343 := Try.func197.trans (congrArg some (by kernel_rfl))
  t0 := Try.underlying0
  a0 := Try.isAgg0
  z0 := Try.sizeOf0
  v0 := Try.zeroValue0
  t3 := Try.underlying3
  a3 := Try.isAgg3
  z3 := Try.sizeOf3
  v3 := Try.zeroValue3
  t4 := Try.underlying4
  a4 := Try.isAgg4
  z4 := Try.sizeOf4
  v4 := Try.zeroValue4
  t5 := Try.underlying5
  a5 := Try.isAgg5
  z5 := Try.sizeOf5
  v5 := Try.zeroValue5
  t9 := Try.underlying9
  a9 := Try.isAgg9
  z9 := Try.sizeOf9
  v9 := Try.zeroValue9
  t28 := Try.underlying38
  a28 := Try.isAgg38
  z28 := Try.sizeOf38
  v28 := Try.zeroValue38
  t46 := Try.underlying165
  a46 := Try.isAgg165
  z46 := Try.sizeOf165
  v46 := Try.zeroValue165
  t51 := Try.underlying203
  a51 := Try.isAgg203
  z51 := Try.sizeOf203
  v51 := Try.zeroValue203
  t53 := Try.underlying205
  a53 := Try.isAgg205
  z53 := Try.sizeOf205
  v53 := Try.zeroValue205
  t131 := Try.underlying200
  a131 := Try.isAgg200
  z131 := Try.sizeOf200
  v131 := Try.zeroValue200
  t182 := Try.underlying194
  a182 := Try.isAgg194
  z182 := Try.sizeOf194
  v182 := Try.zeroValue194
  t183 := Try.underlying195
  a183 := Try.isAgg195
  z183 := Try.sizeOf195
  v183 := Try.zeroValue195
  t218 := Try.underlying209
  a218 := Try.isAgg209
  z218 := Try.sizeOf209
  v218 := Try.zeroValue209
  t222 := Try.underlying213
  a222 := Try.isAgg213
  z222 := Try.sizeOf213
  v222 := Try.zeroValue213
  t228 := Try.underlying215
  a228 := Try.isAgg215
  z228 := Try.sizeOf215
  v228 := Try.zeroValue215
  t229 := Try.underlying216
  a229 := Try.isAgg216
  z229 := Try.sizeOf216
  v229 := Try.zeroValue216
def laysCompact_ren : Go.Shelf.Ren := ⟨fun | 20 => 123 | n => n, fun | 22 => 38 | 3 => 3 | 4 => 4 | 0 => 0 | n => n, fun | n => n⟩
theorem laysCompact : Lays2.n20 Try.prog laysCompact_ren where
  mixed := by kernel_rfl
  f20 := Try.func123.trans (congrArg some (by kernel_rfl))
  t0 := Try.underlying0
  a0 := Try.isAgg0
  z0 := Try.sizeOf0
  v0 := Try.zeroValue0
  t3 := Try.underlying3
  a3 := Try.isAgg3
  z3 := Try.sizeOf3
  v3 := Try.zeroValue3
  t4 := Try.underlying4
  a4 := Try.isAgg4
  z4 := Try.sizeOf4
  v4 := Try.zeroValue4
  t22 := Try.underlying38
  a22 := Try.isAgg38
  z22 := Try.sizeOf38
  v22 := Try.zeroValue38
  i3 := by kernel_rfl
def laysClone_ren : Go.Shelf.Ren := ⟨fun | 15 => 70 | n => n, fun | 22 => 38 | 3 => 3 | 4 => 4 | n => n, fun | n => n⟩
theorem laysClone : Lays2.n15 Try.prog laysClone_ren where
  mixed := by kernel_rfl
  f15 := Try.func70.trans (congrArg some (by kernel_rfl))
  t3 := Try.underlying3
  a3 := Try.isAgg3
  z3 := Try.sizeOf3
  v3 := Try.zeroValue3
  t4 := Try.underlying4
  a4 := Try.isAgg4
  z4 := Try.sizeOf4
  v4 := Try.zeroValue4
  t22 := Try.underlying38
  a22 := Try.isAgg38
  z22 := Try.sizeOf38
  v22 := Try.zeroValue38
  i3 := by kernel_rfl

theorem cmp_len {zs : List Int} (hs : zs.Pairwise (· ≤ ·)) : ∀ m, m ≤ zs.length → (Lib.compactUpTo zs.toArray m).length = ndc (zs.take m) := by
  intro m
  induction m with
  | zero => intro _; rfl
  | succ m ih =>
    intro hm
    have hx : zs[m]? = some (zs[m]'(by omega)) := List.getElem?_eq_getElem (by omega)
    rw [Lib.compactUpTo_succ, List.length_append, ih (by omega), take_next hx, ndc_snoc]
    congr 1
    have e0 : zs.toArray[m]! = zs[m]'(by omega) := by simp [getElem!_pos, show m < zs.length by omega]
    have key : Lib.keeps zs.toArray m = !decide (zs[m]'(by omega) ∈ zs.take m) := by
      unfold Lib.keeps
      rw [← decide_not]
      apply decide_eq_decide.2
      rw [List.mem_take_iff_getElem]
      constructor
      · rintro h ⟨j, hj, he⟩
        have hjm : j < m := by omega
        rcases h with h | h
        · omega
        · apply h
          have e1 : zs.toArray[m - 1]! = zs[m - 1]'(by omega) := by simp [getElem!_pos, show m - 1 < zs.length by omega]
          rw [e0, e1]
          have a1 : zs[j]'(by omega) ≤ zs[m - 1]'(by omega) := by
            by_cases h2 : j = m - 1
            · subst h2; exact Int.le_refl _
            · exact List.pairwise_iff_getElem.1 hs j (m - 1) (by omega) (by omega) (by omega)
          have a2 : zs[m - 1]'(by omega) ≤ zs[m]'(by omega) := List.pairwise_iff_getElem.1 hs (m - 1) m (by omega) (by omega) (by omega)
          omega
      · intro h
        by_cases h0 : m = 0
        · exact Or.inl h0
        · refine Or.inr (fun e => h ⟨m - 1, by omega, ?_⟩)
          have e1 : zs.toArray[m - 1]! = zs[m - 1]'(by omega) := by simp [getElem!_pos, show m - 1 < zs.length by omega]
          rw [e0, e1] at e
          exact e.symm
    rw [key]
    by_cases h : zs[m]'(by omega) ∈ zs.take m <;> simp [h]
def srtI (l : List Int) : List Int := l.mergeSort fun x y => decide (x ≤ y)
theorem srtI_len (l : List Int) : (srtI l).length = l.length := List.length_mergeSort l
theorem srtI_pw (l : List Int) : (srtI l).Pairwise (· ≤ ·) := by
  have h := List.pairwise_mergeSort (le := fun x y : Int => decide (x ≤ y)) (fun a b c h1 h2 => by simp at h1 h2 ⊢; omega) (fun a b => by simp; omega) l
  exact h.imp (fun h => by simpa using h)
theorem cmp_ndc (l : List Int) : (Lib.compact (srtI l)).length = ndc l := by
  unfold Lib.compact
  rw [cmp_len (srtI_pw l) _ (Nat.le_refl _), List.take_length]
  exact ndc_perm (List.mergeSort_perm l _)
set_option maxHeartbeats 1600000 in
theorem clone_own (v : Value) (l : List Int) (w : World) (hv : tInts.at w [v] l) (hl : l.length ≤ 1048576) (hn : ∀ n c, v ≠ .slice none n c) :
    Calls Try.prog 70 #[v] w fun e w' => ∃ v', e = .returned v' ∧ w'.ownsRow w.heap.size 3 1 v' l.length (l.map (Value.int .i64)) ∧ v' ≠ .slice none 0 0 ∧ More w w' := by
  obtain ⟨ao, cap, rfl⟩ := sl_len hv
  cases ao with
  | none => exact absurd rfl (hn _ _)
  | some ad =>
    by_cases h0 : l.length = 0
    · have e : l = [] := List.eq_nil_of_length_eq_zero h0
      subst e
      exact Any.slices_Clone_int_zero laysClone ad cap w
    · obtain ⟨b, off, x, e, -, -, -, -⟩ := int_el hv (k := 0) (by omega)
      cases e
      have h := Any.slices_Clone_int laysClone b off l.length cap l w (Nat.le_refl _) (by omega) (fun j hj => by
        obtain ⟨b', off', x', e, -, hx, -, hc⟩ := int_el hv (k := j) hj
        cases e
        rw [List.getD_eq_getElem?_getD, hx]
        exact hc)
      rw [List.take_length] at h
      exact h
end Go.Proofs.Ytlidkddicnfmaaa
