/- Several texts laid together; each has its own word at its head. -/
import Derived.Shelf.Small.Wraps
import Derived.Shelf.Strings.Search2
import Derived.Shelf.Strings.Repeat
import Derived.Shelf.Strings.Builder1
import Derived.Shelf.Strconv.Itoa3
import Derived.Test.YtnbefpfijaimjaaGreatDoorRows
import Derived.Test.YtnbefpfijaimjaaGreatDoorGTro
import Derived.Shelf.RegionOpenPlain
import Derived.Laws.IdiomStrings
import Derived.Deep.QuietTactic
import Derived.Deep.RegionHeld3
/- The library on texts: the shelf's contracts at this program. -/
namespace Go.Proofs.YtnbefpfijaimjaaGreatDoor
open Go.RowKit Go.Shelf
def laysIndex_ren : Go.Shelf.Ren := ⟨fun | 219 => 84 | 217 => 116 | 225 => 117 | 224 => 118 | 267 => 119 | 266 => 153 | 314 => 154 | n => n, fun | 9 => 9 | 3 => 3 | 4 => 4 | 5 => 5 | 46 => 107 | 146 => 142 | 51 => 141 | n => n, fun | 1 => 0 | n => n⟩
theorem laysIndex : Lays.n219 Tryz.prog laysIndex_ren where
  mixed := by kernel_rfl
  f217 := Tryz.func116.trans (congrArg some (by kernel_rfl))
  f219 := Tryz.func84.trans (congrArg some (by kernel_rfl))
  f224 := Tryz.func118.trans (congrArg some (by kernel_rfl))
  f225 := Tryz.func117.trans (congrArg some (by kernel_rfl))
  f266 := Tryz.func153.trans (congrArg some (by kernel_rfl))
  f267 := Tryz.func119.trans (congrArg some (by kernel_rfl))
  f314 := Tryz.func154.trans (congrArg some (by kernel_rfl))
  t3 := Tryz.underlying3
  a3 := Tryz.isAgg3
  z3 := Tryz.sizeOf3
  v3 := Tryz.zeroValue3
  t4 := Tryz.underlying4
  a4 := Tryz.isAgg4
  z4 := Tryz.sizeOf4
  v4 := Tryz.zeroValue4
  t5 := Tryz.underlying5
  a5 := Tryz.isAgg5
  z5 := Tryz.sizeOf5
  v5 := Tryz.zeroValue5
  t9 := Tryz.underlying9
  a9 := Tryz.isAgg9
  z9 := Tryz.sizeOf9
  v9 := Tryz.zeroValue9
  t46 := Tryz.underlying107
  a46 := Tryz.isAgg107
  z46 := Tryz.sizeOf107
  v46 := Tryz.zeroValue107
  t51 := Tryz.underlying141
  a51 := Tryz.isAgg141
  z51 := Tryz.sizeOf141
  v51 := Tryz.zeroValue141
  t146 := Tryz.underlying142
  a146 := Tryz.isAgg142
  z146 := Tryz.sizeOf142
  v146 := Tryz.zeroValue142
  g1 := by kernel_rfl
def laysCutPrefix_ren : Go.Shelf.Ren := ⟨fun | 103 => 85 | 210 => 120 | 206 => 155 | n => n, fun | 9 => 9 | 4 => 4 | 24 => 99 | 3 => 3 | n => n, fun | n => n⟩
theorem laysCutPrefix : Lays.n103 Tryz.prog laysCutPrefix_ren where
  mixed := by kernel_rfl
  f103 := Tryz.func85.trans (congrArg some (by kernel_rfl))
  f206 := Tryz.func155.trans (congrArg some (by kernel_rfl))
  f210 := Tryz.func120.trans (congrArg some (by kernel_rfl))
  t3 := Tryz.underlying3
  a3 := Tryz.isAgg3
  z3 := Tryz.sizeOf3
  v3 := Tryz.zeroValue3
  t4 := Tryz.underlying4
  a4 := Tryz.isAgg4
  z4 := Tryz.sizeOf4
  v4 := Tryz.zeroValue4
  t9 := Tryz.underlying9
  a9 := Tryz.isAgg9
  z9 := Tryz.sizeOf9
  v9 := Tryz.zeroValue9
  t24 := Tryz.underlying99
  a24 := Tryz.isAgg99
  z24 := Tryz.sizeOf99
  v24 := Tryz.zeroValue99
def laysRepeat_ren : Go.Shelf.Ren := ⟨fun | 105 => 132 | 212 => 163 | 99 => 164 | 165 => 165 | 166 => 96 | 170 => 166 | 169 => 98 | 263 => 178 | 264 => 179 | 206 => 155 | 240 => 131 | 241 => 180 | 276 => 162 | 277 => 189 | n => n, fun | 9 => 9 | 3 => 3 | 4 => 4 | 20 => 20 | 0 => 0 | 46 => 107 | 109 => 148 | 5 => 5 | 72 => 111 | 76 => 89 | 51 => 141 | 146 => 142 | 53 => 152 | 148 => 167 | 70 => 109 | 37 => 34 | 75 => 88 | 127 => 129 | 164 => 146 | 80 => 113 | n => n, fun | n => n⟩
theorem laysRepeat : Lays.n105 Tryz.prog laysRepeat_ren where
  mixed := by kernel_rfl
  f99 := Tryz.func164.trans (congrArg some (by kernel_rfl))
  f105 := Tryz.func132.trans (congrArg some (by kernel_rfl))
  f165 := Tryz.func165.trans (congrArg some (by kernel_rfl))
  f166 := Tryz.func96.trans (congrArg some (by kernel_rfl))
  f169 := Tryz.func98.trans (congrArg some (by kernel_rfl))
  f170 := Tryz.func166.trans (congrArg some (by kernel_rfl))
  f206 := Tryz.func155.trans (congrArg some (by kernel_rfl))
  f212 := Tryz.func163.trans (congrArg some (by kernel_rfl))
  f240 := Tryz.func131.trans (congrArg some (by kernel_rfl))
  f241 := Tryz.func180.trans (congrArg some (by kernel_rfl))
  f263 := Tryz.func178.trans (congrArg some (by kernel_rfl))
  f264 := Tryz.func179.trans (congrArg some (by kernel_rfl))
  f276 := Tryz.func162.trans (congrArg some (by kernel_rfl))
  f277 := Tryz.func189.trans (congrArg some (by kernel_rfl))
  t0 := Tryz.underlying0
  a0 := Tryz.isAgg0
  z0 := Tryz.sizeOf0
  v0 := Tryz.zeroValue0
  t3 := Tryz.underlying3
  a3 := Tryz.isAgg3
  z3 := Tryz.sizeOf3
  v3 := Tryz.zeroValue3
  t4 := Tryz.underlying4
  a4 := Tryz.isAgg4
  z4 := Tryz.sizeOf4
  v4 := Tryz.zeroValue4
  t5 := Tryz.underlying5
  a5 := Tryz.isAgg5
  z5 := Tryz.sizeOf5
  v5 := Tryz.zeroValue5
  t9 := Tryz.underlying9
  a9 := Tryz.isAgg9
  z9 := Tryz.sizeOf9
  v9 := Tryz.zeroValue9
  t20 := Tryz.underlying20
  a20 := Tryz.isAgg20
  z20 := Tryz.sizeOf20
  v20 := Tryz.zeroValue20
  t37 := Tryz.underlying34
  a37 := Tryz.isAgg34
  z37 := Tryz.sizeOf34
  v37 := Tryz.zeroValue34
  t46 := Tryz.underlying107
  a46 := Tryz.isAgg107
  z46 := Tryz.sizeOf107
  v46 := Tryz.zeroValue107
  t51 := Tryz.underlying141
  a51 := Tryz.isAgg141
  z51 := Tryz.sizeOf141
  v51 := Tryz.zeroValue141
  t53 := Tryz.underlying152
  a53 := Tryz.isAgg152
  z53 := Tryz.sizeOf152
  v53 := Tryz.zeroValue152
  t70 := Tryz.underlying109
  a70 := Tryz.isAgg109
  z70 := Tryz.sizeOf109
  v70 := Tryz.zeroValue109
  t72 := Tryz.underlying111
  a72 := Tryz.isAgg111
  z72 := Tryz.sizeOf111
  v72 := Tryz.zeroValue111
  t75 := Tryz.underlying88
  a75 := Tryz.isAgg88
  z75 := Tryz.sizeOf88
  v75 := Tryz.zeroValue88
  t76 := Tryz.underlying89
  a76 := Tryz.isAgg89
  z76 := Tryz.sizeOf89
  v76 := Tryz.zeroValue89
  t109 := Tryz.underlying148
  a109 := Tryz.isAgg148
  z109 := Tryz.sizeOf148
  v109 := Tryz.zeroValue148
  t127 := Tryz.underlying129
  a127 := Tryz.isAgg129
  z127 := Tryz.sizeOf129
  v127 := Tryz.zeroValue129
  t146 := Tryz.underlying142
  a146 := Tryz.isAgg142
  z146 := Tryz.sizeOf142
  v146 := Tryz.zeroValue142
  t148 := Tryz.underlying167
  a148 := Tryz.isAgg167
  z148 := Tryz.sizeOf167
  v148 := Tryz.zeroValue167
  t164 := Tryz.underlying146
  a164 := Tryz.isAgg146
  z164 := Tryz.sizeOf146
  v164 := Tryz.zeroValue146
def laysItoa_ren : Go.Shelf.Ren := ⟨fun | 171 => 68 | 243 => 101 | 246 => 138 | 283 => 170 | 284 => 171 | 285 => 172 | 286 => 173 | 129 => 184 | 317 => 183 | 318 => 185 | 319 => 186 | 320 => 187 | 337 => 190 | 338 => 191 | n => n, fun | 3 => 3 | 9 => 9 | 2 => 2 | 4 => 4 | 171 => 159 | 0 => 0 | 53 => 152 | 37 => 34 | 5 => 5 | 173 => 162 | 212 => 174 | 51 => 141 | 20 => 20 | 213 => 175 | 46 => 107 | 232 => 179 | 233 => 180 | n => n, fun | 17 => 3 | 18 => 4 | 19 => 5 | n => n⟩
theorem laysItoa : LaysM.n171 Tryz.prog laysItoa_ren where
  mixed := by kernel_rfl
  f129 := Tryz.func184.trans (congrArg some (by kernel_rfl))
  f171 := Tryz.func68.trans (congrArg some (by kernel_rfl))
  f243 := Tryz.func101.trans (congrArg some (by kernel_rfl))
  f246 := Tryz.func138.trans (congrArg some (by kernel_rfl))
  f283 := Tryz.func170.trans (congrArg some (by kernel_rfl))
  f284 := Tryz.func171.trans (congrArg some (by kernel_rfl))
  f285 := Tryz.func172.trans (congrArg some (by kernel_rfl))
  f286 := Tryz.func173.trans (congrArg some (by kernel_rfl))
  f317 := Tryz.func183.trans (congrArg some (by kernel_rfl))
  f318 := Tryz.func185.trans (congrArg some (by kernel_rfl))
  f319 := Tryz.func186.trans (congrArg some (by kernel_rfl))
  f320 := Tryz.func187.trans (congrArg some (by kernel_rfl))
  f337 := Tryz.func190.trans (congrArg some (by kernel_rfl))
  f338 := Tryz.func191.trans (congrArg some (by kernel_rfl))
  t0 := Tryz.underlying0
  a0 := Tryz.isAgg0
  z0 := Tryz.sizeOf0
  v0 := Tryz.zeroValue0
  t2 := Tryz.underlying2
  a2 := Tryz.isAgg2
  z2 := Tryz.sizeOf2
  v2 := Tryz.zeroValue2
  t3 := Tryz.underlying3
  a3 := Tryz.isAgg3
  z3 := Tryz.sizeOf3
  v3 := Tryz.zeroValue3
  t4 := Tryz.underlying4
  a4 := Tryz.isAgg4
  z4 := Tryz.sizeOf4
  v4 := Tryz.zeroValue4
  t5 := Tryz.underlying5
  a5 := Tryz.isAgg5
  z5 := Tryz.sizeOf5
  v5 := Tryz.zeroValue5
  t9 := Tryz.underlying9
  a9 := Tryz.isAgg9
  z9 := Tryz.sizeOf9
  v9 := Tryz.zeroValue9
  t20 := Tryz.underlying20
  a20 := Tryz.isAgg20
  z20 := Tryz.sizeOf20
  v20 := Tryz.zeroValue20
  t37 := Tryz.underlying34
  a37 := Tryz.isAgg34
  z37 := Tryz.sizeOf34
  v37 := Tryz.zeroValue34
  t46 := Tryz.underlying107
  a46 := Tryz.isAgg107
  z46 := Tryz.sizeOf107
  v46 := Tryz.zeroValue107
  t51 := Tryz.underlying141
  a51 := Tryz.isAgg141
  z51 := Tryz.sizeOf141
  v51 := Tryz.zeroValue141
  t53 := Tryz.underlying152
  a53 := Tryz.isAgg152
  z53 := Tryz.sizeOf152
  v53 := Tryz.zeroValue152
  t171 := Tryz.underlying159
  a171 := Tryz.isAgg159
  z171 := Tryz.sizeOf159
  v171 := Tryz.zeroValue159
  t173 := Tryz.underlying162
  a173 := Tryz.isAgg162
  z173 := Tryz.sizeOf162
  v173 := Tryz.zeroValue162
  t212 := Tryz.underlying174
  a212 := Tryz.isAgg174
  z212 := Tryz.sizeOf174
  v212 := Tryz.zeroValue174
  t213 := Tryz.underlying175
  a213 := Tryz.isAgg175
  z213 := Tryz.sizeOf175
  t232 := Tryz.underlying179
  a232 := Tryz.isAgg179
  z232 := Tryz.sizeOf179
  v232 := Tryz.zeroValue179
  t233 := Tryz.underlying180
  a233 := Tryz.isAgg180
  z233 := Tryz.sizeOf180
  v233 := Tryz.zeroValue180
  g17 := by kernel_rfl
  g18 := by kernel_rfl
  g19 := by kernel_rfl
  i0 := by kernel_rfl
  i2 := by kernel_rfl
  i3 := by kernel_rfl
  i4 := by kernel_rfl
  i5 := by kernel_rfl
  i9 := by kernel_rfl
  i20 := by kernel_rfl
  i37 := by kernel_rfl
  i46 := by kernel_rfl
  i51 := by kernel_rfl
  i53 := by kernel_rfl
  i171 := by kernel_rfl
  i173 := by kernel_rfl
  i212 := by kernel_rfl
  i232 := by kernel_rfl
  i233 := by kernel_rfl
  m17 := by kernel_rfl
  m18 := by kernel_rfl
  m19 := by kernel_rfl
theorem laysX : Builder.Extra Tryz.prog laysRepeat_ren where
  sizeBuilder := by kernel_rfl
  liesBuilder := by kernel_rfl
  t5 := Tryz.underlying5
  a5 := Tryz.isAgg5
  z5 := Tryz.sizeOf5
  v5 := Tryz.zeroValue5
  infoByte := by kernel_rfl
  cellsByte := by kernel_rfl
  sizeByte := by kernel_rfl
  neB5 := by decide
end Go.Proofs.YtnbefpfijaimjaaGreatDoor
/- Cutting a text, a number's digits, zeros in front. -/
namespace Go.Proofs.YtnbefpfijaimjaaGreatDoor
open Go.RowKit
/-- Cut at the first c. -/
def cutC (c : UInt8) : List UInt8 → List UInt8 × List UInt8 × Bool
  | [] => ([], [], false)
  | b :: t => if b = c then ([], t, true) else (b :: (cutC c t).1, (cutC c t).2.1, (cutC c t).2.2)
theorem cutC_miss {c : UInt8} : ∀ {l : List UInt8}, Lib.indexByte l c = -1 → cutC c l = (l, [], false)
  | [], _ => rfl
  | b :: t, h => by
    unfold Lib.indexByte at h
    by_cases hb : b = c
    · subst hb
      simp at h
    · have hb' : (b == c) = false := by simpa using hb
      rw [hb'] at h
      have ht : Lib.indexByte t c = -1 := by
        by_cases h2 : Lib.indexByte t c = -1
        · exact h2
        · have h3 : (Lib.indexByte t c == -1) = false := by simpa using h2
          rw [h3] at h
          have := Lib.indexByte_ge t c
          simp only [Bool.false_eq_true, if_false] at h
          omega
      unfold cutC
      rw [if_neg hb, cutC_miss ht]
theorem cutC_hit {c : UInt8} : ∀ {l : List UInt8} {i : Nat}, Lib.indexByte l c = (i : Int) → i < l.length ∧ cutC c l = (l.take i, l.drop (i + 1), true)
  | [], i, h => by
    unfold Lib.indexByte at h
    omega
  | b :: t, i, h => by
    unfold Lib.indexByte at h
    by_cases hb : b = c
    · subst hb
      simp at h
      obtain rfl : i = 0 := by omega
      exact ⟨by simp, by unfold cutC; rw [if_pos rfl]; rfl⟩
    · have hb' : (b == c) = false := by simpa using hb
      rw [hb'] at h
      by_cases h2 : Lib.indexByte t c = -1
      · rw [h2] at h
        simp only [Bool.false_eq_true, if_false, beq_self_eq_true, if_true] at h
        omega
      · have h3 : (Lib.indexByte t c == -1) = false := by simpa using h2
        rw [h3] at h
        have h4 := Lib.indexByte_ge t c
        simp only [Bool.false_eq_true, if_false] at h
        have h5 : 0 < i := by
          rcases Nat.eq_zero_or_pos i with h0 | h0
          · subst h0; simp at h; omega
          · exact h0
        obtain ⟨j, rfl⟩ : ∃ j, i = j + 1 := ⟨i - 1, by omega⟩
        obtain ⟨k1, k2⟩ := cutC_hit (c := c) (l := t) (i := j) (by omega)
        refine ⟨by simp; omega, ?_⟩
        unfold cutC
        rw [if_neg hb, k2]
        rfl
theorem index_one (l : List UInt8) (c : UInt8) (w : World) : Calls Tryz.prog 84 #[.string (sB l), .string ⟨#[c]⟩] w fun e w' => e = .returned (.int .i64 (Lib.indexByte l c)) ∧ w' = w := by
  have h := Any.stringslite_Index_one laysIndex (sB l) c w
  rw [sB_data] at h
  exact h
set_option maxHeartbeats 800000 in
theorem lite_Cut (l : List UInt8) (c : UInt8) (w : World) (hl : l.length ≤ 1048576) :
    Calls Tryz.prog 44 #[.string (sB l), .string ⟨#[c]⟩] w fun e w' => e = .returned (.tuple #[.string (sB (cutC c l).1), .string (sB (cutC c l).2.1), .bool (cutC c l).2.2]) ∧ More w w' := by
  obtain ⟨n, hn⟩ : ∃ n, n = l.length := ⟨_, rfl⟩
  have hs : (sB l).size = n := by rw [sB_size, hn]
  have hc1 : (⟨#[c]⟩ : ByteArray).size = 1 := rfl
  have HN := Lib.hid hn; clear hn
  rw [← HN.out] at hl
  have hge := Lib.indexByte_ge l c
  by_cases h0 : Lib.indexByte l c = -1
  · have H0 := Lib.hid h0; clear h0
    go_enter Tryz.func44, Tryz.ntmps44
    go_wp2_with (go_at_call 84; refine (index_one l c _).mono ?_; rintro e w1 ⟨rfl, rfl⟩; rw [H0.out])
    go_ret3
    exact ⟨by rw [cutC_miss H0.out]; rfl, mC⟩
  · obtain ⟨i, hi⟩ : ∃ i : Nat, Lib.indexByte l c = (i : Int) := ⟨(Lib.indexByte l c).toNat, by omega⟩
    obtain ⟨hil, hcut⟩ := cutC_hit hi
    have HI := Lib.hid hi; have HC := Lib.hid hcut
    rw [← HN.out] at hil
    clear hge h0 hi hcut
    have mixed := laysIndex.mixed
    have c0 : (0 : Int) ≤ (i : Int) + 1 := by omega
    have c1 : (0 : Int) ≤ (i : Int) := by omega
    have c2 : (i : Int) ≤ (n : Int) := by omega
    have c3 : (i : Int) + 1 ≤ (n : Int) := by omega
    have e1 : (sB l).extract 0 i = sB (l.take i) := by rw [sB_extract, List.drop_zero]
    have e2 : (sB l).extract (i + 1) n = sB (l.drop (i + 1)) := by rw [sB_extract, HN.out, List.take_length]
    have hwk : IntKind.i64.wrap ((i : Int) + 1) = ((i + 1 : Nat) : Int) := by rw [IntWalk.i64_in _ (by omega)]; omega
    go_enter Tryz.func44, Tryz.ntmps44
    go_wp2_with (go_at_call 84; refine (index_one l c _).mono ?_; rintro e w1 ⟨rfl, rfl⟩; rw [HI.out])
    go_region_o
    go_wp2_with fail
    go_ret3
    exact ⟨by rw [HC.out]; rfl, mC⟩
theorem str_Cut (l : List UInt8) (c : UInt8) (w : World) (hl : l.length ≤ 1048576) :
    Calls Tryz.prog 23 #[.string (sB l), .string ⟨#[c]⟩] w fun e w' => e = .returned (.tuple #[.string (sB (cutC c l).1), .string (sB (cutC c l).2.1), .bool (cutC c l).2.2]) ∧ More w w' := by
  go_enter Tryz.func23, Tryz.ntmps23
  go_wp2_with (go_at_call 44; refine (lite_Cut l c _ hl).mono ?_; rintro e w1 ⟨rfl, hb1⟩)
  go_ret3
  exact ⟨rfl, mC⟩
def negB (l : List UInt8) : Bool := decide (l[0]? = some 45)
def absB (l : List UInt8) : List UInt8 := if negB l then l.drop 1 else l
theorem absB_len (l : List UInt8) : (absB l).length ≤ l.length := by
  unfold absB
  split
  · rw [List.length_drop]; omega
  · exact Nat.le_refl _
theorem str_CutPrefix (l : List UInt8) (w : World) :
    Calls Tryz.prog 85 #[.string (sB l), .string ⟨#[45]⟩] w fun e w' => e = .returned (.tuple #[.string (sB (absB l)), .bool (negB l)]) ∧ w' = w := by
  have h := Any.strings_CutPrefix laysCutPrefix (sB l) ⟨#[45]⟩ w
  rw [sB_data] at h
  have h1 : Lib.hasPrefix l (ByteArray.mk #[45]).data.toList = negB l := by
    show List.isPrefixOf [45] l = _
    unfold negB
    cases l with
    | nil => rfl
    | cons a l =>
      show ((45 : UInt8) == a && List.isPrefixOf [] l) = _
      rw [Bool.eq_iff_iff]
      simp [List.isPrefixOf]
      exact ⟨fun h => h.symm, fun h => h.symm⟩
  have h2 : Lib.trimPrefix l (ByteArray.mk #[45]).data.toList = absB l := by
    unfold Lib.trimPrefix
    rw [h1]
    unfold absB
    rfl
  rw [h1, h2] at h
  exact h
theorem grow_more (w : World) (k : Nat) (os : Array Obj) : More w (Go.Sort.grow (w.drewN k) os) := by
  refine Turns.more (⟨rfl, rfl, rfl, ?_, fun j hj _ => ?_, ?_⟩ : Turns [] w (Go.Sort.grow (w.drewN k) os))
  · show w.heap.size ≤ (w.heap ++ os).size
    rw [Array.size_append]
    omega
  · show (w.heap ++ os)[j]? = _
    rw [Array.getElem?_append_left hj]
  · first
    | trivial
    | (show w.drawn ≤ w.drawn + k; omega)
theorem itoa_nat (n : Nat) : Lib.itoa (n : Int) = Lib.decDigits n := by
  unfold Lib.itoa
  rw [if_neg (by omega)]
  rfl
abbrev PowTab (w : World) : Prop := Lib.TabIs Tryz.prog w "internal/strconv.uint64pow10" .u64 Lib.pow10Tab
theorem str_Itoa (n : Nat) (w : World) (h : n ≤ 1000000000) (ht : PowTab w) :
    Calls Tryz.prog 68 #[.int .i64 (n : Int)] w fun e w' => e = .returned (.string (sB (Lib.decDigits n))) ∧ More w w' := by
  have h1 := Any.strconv_Itoa laysItoa (n : Int) (by omega) (by omega) w ht
  rw [itoa_nat] at h1
  refine h1.mono ?_
  rintro e w' ⟨rfl, k, os, rfl⟩
  exact ⟨rfl, grow_more w k os⟩
end Go.Proofs.YtnbefpfijaimjaaGreatDoor
/- Zeros in front; a number's digits by the reference. -/
namespace Go.Proofs.YtnbefpfijaimjaaGreatDoor
open Go.RowKit
def padZ (l : List UInt8) : List UInt8 := List.replicate (9 - l.length) 48 ++ l
theorem repeat_one (c : Nat) : Lib.repeatL [48] c = List.replicate c 48 := by
  induction c with
  | zero => rfl
  | succ c ih => rw [List.replicate_succ, ← ih]; rfl
theorem str_Repeat (c : Nat) (w : World) (hc : c ≤ 9) : Calls Tryz.prog 132 #[.string ⟨#[48]⟩, .int .i64 (c : Int)] w fun e w' => e = .returned (.string (sB (List.replicate c 48))) ∧ More w w' := by
  have h := Any.strings_Repeat laysRepeat laysX (sB [48]) c w (by omega) (by rw [sB_size]; simp; omega)
  rw [sB_data, repeat_one] at h
  exact h.mono fun e w' ⟨h1, h2⟩ => ⟨h1, More.of_below h2⟩
set_option maxHeartbeats 800000 in
theorem impl_PadZeros (l : List UInt8) (w : World) (hl : l.length ≤ 1000) :
    Calls Tryz.prog 97 #[.string (sB l), .int .i64 9] w fun e w' => e = .returned (.string (sB (padZ l))) ∧ More w w' := by
  obtain ⟨n, hn⟩ : ∃ n, n = l.length := ⟨_, rfl⟩
  have hs : (sB l).size = n := by rw [sB_size, hn]
  have HN := Lib.hid hn; clear hn
  rw [← HN.out] at hl
  by_cases h9 : 9 ≤ n
  · have h9' : (9 : Int) ≤ (n : Int) := by omega
    go_enter Tryz.func97, Tryz.ntmps97
    go_wp2_with fail
    go_ret
    refine ⟨?_, mC⟩
    unfold padZ
    rw [← HN.out, show 9 - n = 0 by omega]
    rfl
  · obtain ⟨c, hc⟩ : ∃ c, c = 9 - n := ⟨_, rfl⟩
    have h9' : ¬ (9 : Int) ≤ (n : Int) := by omega
    have hwk : IntKind.i64.wrap (9 - (n : Int)) = (c : Int) := by rw [IntWalk.i64_in _ (by omega)]; omega
    have HC := Lib.hid hc
    have hc9 : c ≤ 9 := by omega
    have hadd : ∀ w, (Op.stringOp .add (sB (List.replicate c 48)) (sB l)).run Tryz.prog w = .ok (.string (sB (List.replicate c 48 ++ l))) w := fun w => add_run _ _ _ w (by rw [List.length_replicate, ← HN.out]; omega)
    clear hc
    go_enter Tryz.func97, Tryz.ntmps97
    go_wp2_with (go_at_call 132; refine (str_Repeat c _ hc9).mono ?_; rintro e w1 ⟨rfl, hb1⟩)
    go_ret
    refine ⟨?_, mC⟩
    unfold padZ
    rw [← HN.out, ← HC.out]
    rfl
set_option maxHeartbeats 800000 in
theorem spec_PadZeros (l : List UInt8) (w : World) (hl : l.length ≤ 1000) :
    Calls Tryz.prog 115 #[.string (sB l), .int .i64 9] w fun e w' => e = .returned (.string (sB (padZ l))) ∧ More w w' := by
  obtain ⟨n, hn⟩ : ∃ n, n = l.length := ⟨_, rfl⟩
  have HN := Lib.hid hn; clear hn
  rw [← HN.out] at hl
  go_enter Tryz.func115, Tryz.ntmps115
  go_wp2_with fail
  go_loopw [0] (fun v wr => ∃ j : Nat, v = .string (sB (List.replicate j 48 ++ l)) ∧ j ≤ 9 - n ∧ More w wr) (fun v _ => match v with | .string s => 2000 - s.size | _ => 0)
  case atStart => exact ⟨0, rfl, Nat.zero_le _, mC⟩
  case round =>
    obtain ⟨j, rfl, hj, hm⟩ := hrel
    have hs : (sB (List.replicate j 48 ++ l)).size = j + n := by rw [sB_size, List.length_append, List.length_replicate, HN.out]
    by_cases hlt : j + n < 9
    · have hlt' : (j : Int) + (n : Int) < 9 := by omega
      have hadd : ∀ w, (Op.stringOp .add ⟨#[48]⟩ (sB (List.replicate j 48 ++ l))).run Tryz.prog w = .ok (.string (sB (List.replicate (j + 1) 48 ++ l))) w := fun w => add_run _ [48] (List.replicate j 48 ++ l) w (by rw [List.length_append, List.length_replicate, ← HN.out]; simp; omega)
      go_wp2_with fail
      go_roundw
      case rel => exact ⟨j + 1, rfl, by omega, mC⟩
      case measure =>
        have hs2 : (sB (List.replicate (j + 1) 48 ++ l)).size = j + 1 + n := by rw [sB_size, List.length_append, List.length_replicate, HN.out]
        simp [hs, hs2]; omega
    · have hlt' : ¬ (j : Int) + (n : Int) < 9 := by omega
      go_wp2_with fail
      go_ret
      refine ⟨?_, hm⟩
      unfold padZ
      rw [← HN.out, show 9 - n = j by omega]
      rfl
theorem dec_small {u : Nat} (h : u < 10) : Lib.decDigits u = [UInt8.ofNat (48 + u)] := by rw [Lib.decDigits, dif_pos h]
theorem dec_big {u : Nat} (h : ¬ u < 10) : Lib.decDigits u = Lib.decDigits (u / 10) ++ [UInt8.ofNat (48 + u % 10)] := by rw [Lib.decDigits, dif_neg h]
theorem dec_len : ∀ {k n : Nat}, n < 10 ^ (k + 1) → (Lib.decDigits n).length ≤ k + 1
  | 0, n, h => by rw [dec_small (by simpa using h)]; simp
  | k + 1, n, h => by
    by_cases h1 : n < 10
    · rw [dec_small h1]; simp
    · have h2 : n / 10 < 10 ^ (k + 1) := by rw [Nat.div_lt_iff_lt_mul (by decide)]; rw [Nat.pow_succ] at h; exact h
      have := dec_len h2
      rw [dec_big h1, List.length_append, List.length_singleton]
      omega
theorem one_string (w : World) (b : UInt8) : (convert 34 9 (.slice (some ⟨w.heap.size, 0, none⟩) 1 1)).run Tryz.prog (w.alloc (.cells #[.int .u8 (b.toNat : Int)] 5)) = .ok (.string (sB [b])) (w.alloc (.cells #[.int .u8 (b.toNat : Int)] 5)) := by
  have h := run_convert_bytes_back (P := Tryz.prog) (w.alloc (.cells #[.int .u8 (b.toNat : Int)] 5)) 34 9 5 ⟨w.heap.size, 0, none⟩ 1 [b] Tryz.underlying34 Tryz.underlying5 Tryz.underlying9 (fun j hj => by
    obtain rfl : j = 0 := by simpa using hj
    rw [Addr.add_lit, Nat.zero_add, cell_of_row _ w.heap.size _ _ _ _ (heap_alloc_new w _)]
    rfl)
  exact h
set_option maxRecDepth 8000 in
set_option maxHeartbeats 1600000 in
theorem spec_FormatInt (n : Nat) (w : World) (hn : n ≤ 1000000000) :
    Calls Tryz.prog 114 #[.int .i64 (n : Int)] w fun e w' => e = .returned (.string (sB (Lib.decDigits n))) ∧ More w w' := by
  have h0 : ¬ (n : Int) < 0 := by omega
  go_enter Tryz.func114, Tryz.ntmps114
  go_wp2_with fail
  go_loopw [0, 3] (fun vn vs wr => ∃ (m : Nat) (t : List UInt8), vn = .int .i64 (m : Int) ∧ vs = .string (sB t) ∧ m ≤ 1000000000 ∧ t.length + (Lib.decDigits m).length = (Lib.decDigits n).length ∧ Hid (Lib.decDigits m ++ t = Lib.decDigits n) ∧ More w wr) (fun vn _ _ => (intOf vn).toNat)
  case atStart => exact ⟨n, [], rfl, rfl, hn, by simp, Lib.hid (by simp), mC⟩
  case round =>
    obtain ⟨m, t, rfl, rfl, hm9, hlen, HE, hm⟩ := hrel
    by_cases hb : 9 < m
    · have hb' : (9 : Int) < (m : Int) := by omega
      obtain ⟨b, hbv⟩ : ∃ b, b = UInt8.ofNat (48 + m % 10) := ⟨_, rfl⟩
      obtain ⟨d, hd⟩ : ∃ d, d = m % 10 := ⟨_, rfl⟩
      have hd9 : d ≤ 9 := by omega
      have e1 : (m : Int).tmod 10 = (d : Int) := by rw [hd]; rfl
      have e2 : (m : Int) % 10 = (d : Int) := by omega
      have e3 : IntKind.i64.wrap (48 + (d : Int)) = 48 + (d : Int) := IntWalk.i64_in _ (by omega)
      have e4 : IntKind.u8.wrap (48 + (d : Int)) = (b.toNat : Int) := by rw [hbv, ← hd, UInt8.toNat_ofNat']; simp [IntKind.wrap, IntKind.bits, IntKind.signed]
      have e5 : IntKind.i64.wrap (d : Int) = (d : Int) := IntWalk.i64_in _ (by omega)
      have HB := Lib.hid hbv; have HDD := Lib.hid hd
      clear hbv hd
      obtain ⟨q, hq⟩ : ∃ q, q = m / 10 := ⟨_, rfl⟩
      have e6 : (m : Int).tdiv 10 = (q : Int) := by rw [hq]; rfl
      have e7 : IntKind.i64.wrap (q : Int) = (q : Int) := IntWalk.i64_in _ (by omega)
      have HT : Hid (t.length ≤ 10) := Lib.hid (by have := dec_len (k := 9) (n := n) (by omega); omega)
      have HQ : Hid (Lib.decDigits m = Lib.decDigits q ++ [b]) := Lib.hid (by rw [dec_big (by omega), hq, HB.out])
      have hq9 : q ≤ m := by omega
      have hq0 : q < m := by omega
      clear hq
      have hone := one_string wr b
      have hadd : ∀ w, (Op.stringOp .add (sB [b]) (sB t)).run Tryz.prog w = .ok (.string (sB ([b] ++ t))) w := fun w => add_run _ _ _ w (by have := HT.out; simp; omega)
      go_wp2_with fail
      go_roundw
      case rel => exact ⟨q, [b] ++ t, by first | rfl | simp, by first | rfl | simp, by omega, by have h := congrArg List.length HQ.out; rw [List.length_append, List.length_singleton] at h; rw [List.length_append, List.length_singleton]; omega, Lib.hid (by rw [← HE.out, HQ.out, List.append_assoc]), mC⟩
      case measure => simp [intOf]; omega
    · have hb' : ¬ (9 : Int) < (m : Int) := by omega
      obtain ⟨b, hbv⟩ : ∃ b, b = UInt8.ofNat (48 + m) := ⟨_, rfl⟩
      have e3 : IntKind.i64.wrap (48 + (m : Int)) = 48 + (m : Int) := IntWalk.i64_in _ (by omega)
      have e4 : IntKind.u8.wrap (48 + (m : Int)) = (b.toNat : Int) := by rw [hbv, UInt8.toNat_ofNat']; simp [IntKind.wrap, IntKind.bits, IntKind.signed]
      have HB : Hid (Lib.decDigits m = [b]) := Lib.hid (by rw [dec_small (by omega), hbv])
      have HT : Hid (t.length ≤ 10) := Lib.hid (by have := dec_len (k := 9) (n := n) (by omega); omega)
      clear hbv
      have hone := one_string wr b
      have hadd : ∀ w, (Op.stringOp .add (sB [b]) (sB t)).run Tryz.prog w = .ok (.string (sB ([b] ++ t))) w := fun w => add_run _ _ _ w (by have := HT.out; simp; omega)
      go_wp2_with fail
      go_ret
      refine ⟨?_, mC⟩
      have h := HE.out
      rw [HB.out] at h
      rw [← h]
      rfl
end Go.Proofs.YtnbefpfijaimjaaGreatDoor
/- SplitAny at one byte: the reference's. -/
namespace Go.Proofs.YtnbefpfijaimjaaGreatDoor
open Go.RowKit
def tStr : Ty (List UInt8) where
  size := 1
  rd _ _ cs b := cs = [.string (sB b)]
  own bs _ cs b := bs = [] ∧ cs = [.string (sB b)]
  len := by rintro _ _ _ _ rfl; rfl
  one := by rintro _ _ _ _ rfl u hu; simp at hu; subst hu; rfl
  keep := fun h _ => h
  own_rd := fun h => h.2
  own_keep := fun h _ => h
  own_lt := by rintro _ _ _ _ ⟨rfl, _⟩ k hk; cases hk
def fStr : Flat tStr where
  enc n := [.string (sB n)]
  ok _ := True
  rd_iff _ _ _ _ := ⟨fun h => ⟨h, trivial⟩, fun h => h.1⟩
  own_iff _ _ _ _ := ⟨fun h => ⟨h.1, h.2, trivial⟩, fun h => ⟨h.1, h.2.1⟩⟩
/-- Cut at every c. -/
def splitC (c : UInt8) : List UInt8 → List (List UInt8)
  | [] => [[]]
  | b :: t => if b = c then [] :: splitC c t else match splitC c t with | h :: r => (b :: h) :: r | [] => [[b]]
theorem splitC_none {c : UInt8} : ∀ {l : List UInt8}, (∀ x ∈ l, x ≠ c) → splitC c l = [l]
  | [], _ => rfl
  | b :: t, h => by
    rw [splitC, if_neg (h b (List.mem_cons_self ..)), splitC_none (fun x hx => h x (List.mem_cons_of_mem _ hx))]
theorem splitC_at {c : UInt8} : ∀ {l m : List UInt8}, (∀ x ∈ l, x ≠ c) → splitC c (l ++ c :: m) = l :: splitC c m
  | [], m, _ => by
    show splitC c (c :: m) = _
    rw [splitC, if_pos rfl]
  | b :: t, m, h => by
    show splitC c (b :: (t ++ c :: m)) = _
    rw [splitC, if_neg (h b (List.mem_cons_self ..)), splitC_at (fun x hx => h x (List.mem_cons_of_mem _ hx))]
theorem splitC_len (c : UInt8) : ∀ l : List UInt8, (splitC c l).length ≤ l.length + 1
  | [] => by simp [splitC]
  | b :: t => by
    have h := splitC_len c t
    unfold splitC
    split
    · simp; omega
    · split
      · rename_i h' r e
        rw [e] at h
        simp at h ⊢
        omega
      · simp
theorem infoStr9 : (Tryz.prog.info? 9).map (fun i => (i.zero, i.size, i.bytes)) = some (some (.string ⟨#[]⟩), 1, 16) := by kernel_rfl
set_option maxRecDepth 8000 in
set_option maxHeartbeats 6400000 in
theorem spec_SplitAny (c : UInt8) (l : List UInt8) (w : World) (hl : l.length ≤ 1048576) :
    Calls Tryz.prog 21 #[.string (sB l), .string ⟨#[c]⟩] w fun e w' => ∃ v', e = .returned v' ∧ More w w' ∧ FlatOwn fStr w.heap.size 9 w' v' (splitC c l) := by
  obtain ⟨i0, hi, hz0, hz1, hz2⟩ := info_parts infoStr9
  obtain ⟨n, hn⟩ : ∃ n, n = l.length := ⟨_, rfl⟩
  have hs : (sB l).size = n := by rw [sB_size, hn]
  have hs1 : (⟨#[c]⟩ : ByteArray).size = 1 := rfl
  have hg1 : ∀ h, (⟨#[c]⟩ : ByteArray)[0]'h = c := fun h => rfl
  have HN := Lib.hid hn; clear hn
  rw [← HN.out] at hl
  go_enter Tryz.func21, Tryz.ntmps21
  go_wp2_with fail
  go_loopw [5, 6, 7] (fun vo vf vi wr => ∃ (f i : Nat) (out : List (List UInt8)), vf = .int .i64 (f : Int) ∧ vi = .int .i64 (i : Int) ∧ f ≤ i ∧ i ≤ n ∧ out.length ≤ i ∧ More w wr ∧ Hid (FlatOwn fStr w.heap.size 9 wr vo out) ∧ Hid (out ++ splitC c (l.drop f) = splitC c l) ∧ Hid (∀ x ∈ (l.take i).drop f, x ≠ c)) (fun _ _ vi _ => n - (intOf vi).toNat)
  case atStart => exact ⟨0, 0, [], rfl, rfl, Nat.le_refl _, Nat.zero_le _, Nat.zero_le _, mC, Lib.hid (FlatOwn.lit (Nat.le_refl _)), Lib.hid rfl, Lib.hid (fun x hx => by simp at hx)⟩
  case round =>
    obtain ⟨f, i, out, rfl, rfl, hfi, hin, hol, hm, HO, HS, HNC⟩ := hrel
    obtain ⟨wo, rfl⟩ : ∃ wo : World, wo = wr := ⟨_, rfl⟩
    have HMW := Lib.hid hm
    have f0 : (0 : Int) ≤ (f : Int) := by omega
    have fi : (f : Int) ≤ (i : Int) := by omega
    by_cases hlt : i < n
    · obtain ⟨a, ha⟩ := sB_at (l := l) (k := i) (by rw [← HN.out]; exact hlt)
      have HAt := Lib.hid ha; clear ha
      have hg : ∀ h, (sB l)[i]'h = a := fun h => sB_get HAt.out h
      have j0 : (0 : Int) ≤ (i : Int) := by omega
      have j1 : (i : Int) < (n : Int) := by omega
      have j2 : (i : Int) ≤ (n : Int) := by omega
      have hext : (sB l).extract f i = sB ((l.take i).drop f) := sB_extract _ _ _
      have k1 : IntKind.i64.wrap ((i : Int) + 1) = ((i + 1 : Nat) : Int) := by rw [IntWalk.i64_in _ (by omega)]; omega
      go_wp2_with fail
      go_loopw [5, 6, 8] (fun vo vf vk wr => ∃ k : Nat, vf = .int .i64 (f : Int) ∧ vk = .int .i64 (k : Int) ∧ k ≤ 1 ∧ More wo wr ∧ Hid (FlatOwn fStr w.heap.size 9 wr vo out) ∧ Hid (k = 1 → a ≠ c)) (fun _ _ vk _ => 1 - (intOf vk).toNat)
      case atStart => exact ⟨0, rfl, rfl, by omega, mC, HO, Lib.hid (fun h => by omega)⟩
      case round =>
        obtain ⟨k, rfl, rfl, hk1, hm2, HO2, HK⟩ := hrel
        have HM2 := Lib.hid (More.trans HMW.out hm2)
        by_cases hk : k = 0
        · subst hk
          by_cases hac : a = c
          · have heq : ((a.toNat : Int) == (c.toNat : Int)) = true := by rw [hac]; simp
            have HAC := Lib.hid hac; clear hac
            go_wp2_with fail
            go_quiet (fail)
            generalize hq : World.drewN wr _ = wq
            have hmq : More wr wq := by rw [← hq]; exact mC
            clear hq
            have HOq := Lib.hid (HO2.out.more hmq)
            have HBq := Lib.hid (More.size (More.trans HM2.out hmq))
            go_wp2_with (at_builtin; go_loud (refine wpList_pushFlat fStr wq rfl _ _ 49 rfl w.heap.size 9 i0 (.string ⟨#[]⟩) 16 Tryz.underlying49 hi hz0 hz1 hz2 rfl (by decide) rfl HOq.out mC rfl (by simp) (y := (l.take i).drop f) rfl trivial (Lib.hid (by omega)) (by decide) (Lib.hid HBq.out) ?_))
            intro v4 w4 hl4 hm4
            have hw4 : More w w4 := hm4 w rfl (More.trans HM2.out mC)
            have HL4 := Lib.hid hl4; clear hl4 hm4
            go_wp2_with fail
            go_roundw
            case rel => exact ⟨i + 1, i + 1, out ++ [(l.take i).drop f], by first | rfl | simp, by first | rfl | simp, Nat.le_refl _, by omega, by rw [List.length_append, List.length_singleton]; omega, hw4, HL4, Lib.hid (by
              rw [← HS.out, List.append_assoc]
              congr 1
              have e1 : l.drop f = (l.take i).drop f ++ c :: l.drop (i + 1) := by
                have e2 : l.drop i = c :: l.drop (i + 1) := by
                  have h9 := HAt.out
                  obtain ⟨hil, hie⟩ := List.getElem?_eq_some_iff.1 h9
                  rw [List.drop_eq_getElem_cons hil, hie, HAC.out]
                rw [← e2]
                conv => lhs; rw [← List.take_append_drop i l]
                rw [List.drop_append_of_le_length (by rw [List.length_take]; have := HN.out; omega)]
              rw [e1, splitC_at HNC.out]
              rfl), Lib.hid (fun x hx => by rw [List.drop_eq_nil_of_le (by rw [List.length_take]; omega)] at hx; simp at hx)⟩
            case measure => simp [intOf]; omega
          · have heq : ((a.toNat : Int) == (c.toNat : Int)) = false := by
              rw [beq_eq_false_iff_ne]
              intro h
              exact hac (UInt8.toNat_inj.1 (by omega))
            have HAC := Lib.hid hac; clear hac
            go_wp2_with fail
            go_quiet (fail)
            go_wp2_with fail
            go_roundw
            case rel => exact ⟨1, rfl, rfl, Nat.le_refl _, mC, Lib.hid (HO2.out.more mC), Lib.hid (fun _ => HAC.out)⟩
            case measure => simp [intOf]
        · obtain rfl : k = 1 := by omega
          have HK1 := Lib.hid (HK.out rfl)
          go_wp2_with fail
          go_roundw
          case rel => exact ⟨f, i + 1, out, rfl, by first | rfl | simp, by omega, by omega, by omega, HM2.out, HO2, HS, Lib.hid (fun x hx => by
            rw [List.take_add_one, HAt.out, List.drop_append_of_le_length (by rw [List.length_take]; have := HN.out; omega)] at hx
            rcases List.mem_append.1 hx with h9 | h9
            · exact HNC.out x h9
            · simp at h9
              rw [h9]
              exact HK1.out)⟩
          case measure => simp [intOf]; omega
    · obtain rfl : i = n := by omega
      have j1 : ¬ (i : Int) < (i : Int) := by omega
      have hext : (sB l).extract f i = sB (l.drop f) := by rw [sB_extract, HN.out, List.take_length]
      have HL9 : Hid (splitC c (l.drop f) = [l.drop f]) := Lib.hid (splitC_none (by have h9 := HNC.out; rw [HN.out, List.take_length] at h9; exact h9))
      have HBo := Lib.hid HMW.out.size
      go_wp2_with (at_builtin; go_loud (refine wpList_pushFlat fStr wo rfl _ _ 49 rfl w.heap.size 9 i0 (.string ⟨#[]⟩) 16 Tryz.underlying49 hi hz0 hz1 hz2 rfl (by decide) rfl HO.out mC rfl (by simp) (y := l.drop f) rfl trivial (Lib.hid (by omega)) (by decide) (Lib.hid HBo.out) ?_))
      intro v4 w4 hl4 hm4
      have hw4 : More w w4 := hm4 w rfl (More.trans HMW.out mC)
      have HL4 := Lib.hid hl4; clear hl4 hm4
      go_wp2_with fail
      go_ret
      exact ⟨_, rfl, hw4, by have h9 := HL4.out; rw [← HL9.out, HS.out] at h9; exact h9⟩
end Go.Proofs.YtnbefpfijaimjaaGreatDoor
