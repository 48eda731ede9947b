/- Several texts laid together; each has its own word at its head. -/
import Derived.Shelf.Strconv.Atoi
import Derived.Test.YtnbefpfijaimjaaGreatDoorRows
import Derived.Test.YtnbefpfijaimjaaGreatDoorGStk
import Derived.Test.YtnbefpfijaimjaaGreatDoorGVec
/- The library on texts: the shelf's contracts at this program. -/
namespace Go.Proofs.YtnbefpfijaimjaaGreatDoor
open Go.RowKit Go.Shelf
def laysAtoi_ren : Go.Shelf.Ren := ⟨fun | 172 => 67 | 244 => 99 | 245 => 100 | 247 => 133 | 279 => 134 | 280 => 135 | 281 => 136 | 282 => 137 | 287 => 167 | 316 => 168 | 171 => 68 | 205 => 169 | 321 => 181 | 322 => 182 | 243 => 101 | 246 => 138 | 283 => 170 | 284 => 171 | 285 => 172 | 286 => 173 | 129 => 184 | 317 => 183 | 318 => 185 | 319 => 186 | 320 => 187 | 337 => 190 | 338 => 191 | n => n, fun | 9 => 9 | 3 => 3 | 75 => 88 | 76 => 89 | 4 => 4 | 5 => 5 | 167 => 130 | 37 => 34 | 0 => 0 | 85 => 131 | 2 => 2 | 168 => 133 | 53 => 152 | 175 => 153 | 46 => 107 | 210 => 157 | 127 => 129 | 145 => 172 | 143 => 170 | 21 => 21 | 171 => 159 | 173 => 162 | 212 => 174 | 51 => 141 | 20 => 20 | 213 => 175 | 232 => 179 | 233 => 180 | 80 => 113 | n => n, fun | 15 => 1 | 16 => 2 | 17 => 3 | 18 => 4 | 19 => 5 | n => n⟩
theorem laysAtoi : Lays.n172 Tryz.prog laysAtoi_ren where
  mixed := by kernel_rfl
  f129 := Tryz.func184.trans (congrArg some (by kernel_rfl))
  f171 := Tryz.func68.trans (congrArg some (by kernel_rfl))
  f172 := Tryz.func67.trans (congrArg some (by kernel_rfl))
  f205 := Tryz.func169.trans (congrArg some (by kernel_rfl))
  f243 := Tryz.func101.trans (congrArg some (by kernel_rfl))
  f244 := Tryz.func99.trans (congrArg some (by kernel_rfl))
  f245 := Tryz.func100.trans (congrArg some (by kernel_rfl))
  f246 := Tryz.func138.trans (congrArg some (by kernel_rfl))
  f247 := Tryz.func133.trans (congrArg some (by kernel_rfl))
  f279 := Tryz.func134.trans (congrArg some (by kernel_rfl))
  f280 := Tryz.func135.trans (congrArg some (by kernel_rfl))
  f281 := Tryz.func136.trans (congrArg some (by kernel_rfl))
  f282 := Tryz.func137.trans (congrArg some (by kernel_rfl))
  f283 := Tryz.func170.trans (congrArg some (by kernel_rfl))
  f284 := Tryz.func171.trans (congrArg some (by kernel_rfl))
  f285 := Tryz.func172.trans (congrArg some (by kernel_rfl))
  f286 := Tryz.func173.trans (congrArg some (by kernel_rfl))
  f287 := Tryz.func167.trans (congrArg some (by kernel_rfl))
  f316 := Tryz.func168.trans (congrArg some (by kernel_rfl))
  f317 := Tryz.func183.trans (congrArg some (by kernel_rfl))
  f318 := Tryz.func185.trans (congrArg some (by kernel_rfl))
  f319 := Tryz.func186.trans (congrArg some (by kernel_rfl))
  f320 := Tryz.func187.trans (congrArg some (by kernel_rfl))
  f321 := Tryz.func181.trans (congrArg some (by kernel_rfl))
  f322 := Tryz.func182.trans (congrArg some (by kernel_rfl))
  f337 := Tryz.func190.trans (congrArg some (by kernel_rfl))
  f338 := Tryz.func191.trans (congrArg some (by kernel_rfl))
  t0 := Tryz.underlying0
  a0 := Tryz.isAgg0
  z0 := Tryz.sizeOf0
  v0 := Tryz.zeroValue0
  t2 := Tryz.underlying2
  a2 := Tryz.isAgg2
  z2 := Tryz.sizeOf2
  v2 := Tryz.zeroValue2
  t3 := Tryz.underlying3
  a3 := Tryz.isAgg3
  z3 := Tryz.sizeOf3
  v3 := Tryz.zeroValue3
  t4 := Tryz.underlying4
  a4 := Tryz.isAgg4
  z4 := Tryz.sizeOf4
  v4 := Tryz.zeroValue4
  t5 := Tryz.underlying5
  a5 := Tryz.isAgg5
  z5 := Tryz.sizeOf5
  v5 := Tryz.zeroValue5
  t9 := Tryz.underlying9
  a9 := Tryz.isAgg9
  z9 := Tryz.sizeOf9
  v9 := Tryz.zeroValue9
  t20 := Tryz.underlying20
  a20 := Tryz.isAgg20
  z20 := Tryz.sizeOf20
  v20 := Tryz.zeroValue20
  t21 := Tryz.underlying21
  a21 := Tryz.isAgg21
  z21 := Tryz.sizeOf21
  v21 := Tryz.zeroValue21
  t37 := Tryz.underlying34
  a37 := Tryz.isAgg34
  z37 := Tryz.sizeOf34
  v37 := Tryz.zeroValue34
  t46 := Tryz.underlying107
  a46 := Tryz.isAgg107
  z46 := Tryz.sizeOf107
  v46 := Tryz.zeroValue107
  t51 := Tryz.underlying141
  a51 := Tryz.isAgg141
  z51 := Tryz.sizeOf141
  v51 := Tryz.zeroValue141
  t53 := Tryz.underlying152
  a53 := Tryz.isAgg152
  z53 := Tryz.sizeOf152
  v53 := Tryz.zeroValue152
  t75 := Tryz.underlying88
  a75 := Tryz.isAgg88
  z75 := Tryz.sizeOf88
  v75 := Tryz.zeroValue88
  t76 := Tryz.underlying89
  a76 := Tryz.isAgg89
  z76 := Tryz.sizeOf89
  v76 := Tryz.zeroValue89
  t85 := Tryz.underlying131
  a85 := Tryz.isAgg131
  z85 := Tryz.sizeOf131
  v85 := Tryz.zeroValue131
  t127 := Tryz.underlying129
  a127 := Tryz.isAgg129
  z127 := Tryz.sizeOf129
  v127 := Tryz.zeroValue129
  t143 := Tryz.underlying170
  a143 := Tryz.isAgg170
  z143 := Tryz.sizeOf170
  v143 := Tryz.zeroValue170
  t145 := Tryz.underlying172
  a145 := Tryz.isAgg172
  z145 := Tryz.sizeOf172
  v145 := Tryz.zeroValue172
  t167 := Tryz.underlying130
  a167 := Tryz.isAgg130
  z167 := Tryz.sizeOf130
  v167 := Tryz.zeroValue130
  t168 := Tryz.underlying133
  a168 := Tryz.isAgg133
  z168 := Tryz.sizeOf133
  v168 := Tryz.zeroValue133
  t171 := Tryz.underlying159
  a171 := Tryz.isAgg159
  z171 := Tryz.sizeOf159
  v171 := Tryz.zeroValue159
  t173 := Tryz.underlying162
  a173 := Tryz.isAgg162
  z173 := Tryz.sizeOf162
  v173 := Tryz.zeroValue162
  t175 := Tryz.underlying153
  a175 := Tryz.isAgg153
  z175 := Tryz.sizeOf153
  v175 := Tryz.zeroValue153
  t210 := Tryz.underlying157
  a210 := Tryz.isAgg157
  z210 := Tryz.sizeOf157
  v210 := Tryz.zeroValue157
  t212 := Tryz.underlying174
  a212 := Tryz.isAgg174
  z212 := Tryz.sizeOf174
  v212 := Tryz.zeroValue174
  t213 := Tryz.underlying175
  a213 := Tryz.isAgg175
  z213 := Tryz.sizeOf175
  t232 := Tryz.underlying179
  a232 := Tryz.isAgg179
  z232 := Tryz.sizeOf179
  v232 := Tryz.zeroValue179
  t233 := Tryz.underlying180
  a233 := Tryz.isAgg180
  z233 := Tryz.sizeOf180
  v233 := Tryz.zeroValue180
  g15 := by kernel_rfl
  g16 := by kernel_rfl
  g17 := by kernel_rfl
  g18 := by kernel_rfl
  g19 := by kernel_rfl
end Go.Proofs.YtnbefpfijaimjaaGreatDoor
/- Vectors as texts: strconv.Atoi, impl.FormatVec, impl.ParseVec. -/
namespace Go.Proofs.YtnbefpfijaimjaaGreatDoor
open Go.RowKit Go.Shelf
theorem digV_of {d : Nat} (h : d < 10) : Lib.digitVal (UInt8.ofNat (48 + d)) = some d := by
  have : ∀ d, d < 10 → Lib.digitVal (UInt8.ofNat (48 + d)) = some d := by decide
  exact this d h
theorem decFrom_snoc {b : UInt8} {d : Nat} (hb : Lib.digitVal b = some d) : ∀ (l : List UInt8) (acc n : Nat), Lib.decFrom acc l = some n → Lib.decFrom acc (l ++ [b]) = some (n * 10 + d)
  | [], acc, n, h => by
    obtain rfl : acc = n := Option.some.inj h
    show Lib.decFrom acc [b] = _
    rw [Lib.decFrom, hb]
    rfl
  | a :: l, acc, n, h => by
    rw [Lib.decFrom] at h
    show Lib.decFrom acc (a :: (l ++ [b])) = _
    rw [Lib.decFrom]
    cases ha : Lib.digitVal a with
    | none => rw [ha] at h; cases h
    | some e =>
      rw [ha] at h
      exact decFrom_snoc hb l _ _ h
theorem decFrom_dec (n : Nat) : Lib.decFrom 0 (Lib.decDigits n) = some n := by
  induction n using Nat.strongRecOn with
  | ind n ih =>
    by_cases h : n < 10
    · rw [dec_small h, Lib.decFrom, digV_of h]
      show some (0 * 10 + n) = _
      rw [Nat.zero_mul, Nat.zero_add]
    · rw [dec_big h, decFrom_snoc (digV_of (show n % 10 < 10 by omega)) _ _ _ (ih (n / 10) (by omega))]
      congr 1
      omega
theorem decNat_dec (n : Nat) : Lib.decNat (Lib.decDigits n) = some n := by
  unfold Lib.decNat
  rw [decFrom_dec, if_neg]
  simpa using dec_ne n
theorem atoi_dec (n : Nat) : Lib.atoi (Lib.decDigits n) = some (n : Int) := by
  have h1 := decNat_dec n
  have h2 := List.all_eq_true.1 (dec_dig n)
  cases hm : Lib.decDigits n with
  | nil => exact absurd hm (dec_ne n)
  | cons a l =>
    rw [hm] at h1 h2
    have h3 := h2 a (List.mem_cons_self ..)
    have n1 : (a == 45) = false := by
      rw [beq_eq_false_iff_ne]; intro e; rw [e] at h3; revert h3; decide
    have n2 : (a == 43) = false := by
      rw [beq_eq_false_iff_ne]; intro e; rw [e] at h3; revert h3; decide
    rw [Lib.atoi, n1, n2, if_neg (by simp), if_neg (by simp), h1]
    rfl
theorem atoi_itoa (x : Int) : Lib.atoi (Lib.itoa x) = some x := by
  unfold Lib.itoa
  split
  · rename_i h
    rw [Lib.atoi, if_pos (by decide), decNat_dec]
    show some (-(x.natAbs : Int)) = _
    congr 1
    omega
  · rename_i h
    rw [atoi_dec]
    congr 1
    omega
theorem itoa_len {x : Int} (h : -1000 ≤ x ∧ x ≤ 1000) : (Lib.itoa x).length ≤ 18 := by
  unfold Lib.itoa
  have k : ∀ n : Nat, n ≤ 1000 → (Lib.decDigits n).length ≤ 10 := fun n hn => dec9 (by omega)
  split
  · have := k x.natAbs (by omega)
    rw [List.length_cons]
    omega
  · have := k x.toNat (by omega)
    omega
theorem itoa_comma (x : Int) : NoC 44 (Lib.itoa x) := by
  unfold Lib.itoa
  split
  · intro y hy
    rcases List.mem_cons.1 hy with rfl | hy
    · decide
    · exact (dig_noC (dec_dig _)).1 y hy
  · exact (dig_noC (dec_dig _)).1
theorem str_ItoaZ (x : Int) (w : World) (h : -1000 ≤ x ∧ x ≤ 1000) (ht : PowTab w) :
    Calls Tryz.prog 68 #[.int .i64 x] w fun e w' => e = .returned (.string (sB (Lib.itoa x))) ∧ More w w' := by
  refine (Any.strconv_Itoa laysItoa x (by omega) (by omega) w ht).mono ?_
  rintro e w' ⟨rfl, k, os, rfl⟩
  exact ⟨rfl, grow_more w k os⟩
theorem str_Atoi (x : Int) (w : World) (h : -1000 ≤ x ∧ x ≤ 1000) :
    Calls Tryz.prog 67 #[.string (sB (Lib.itoa x))] w fun e w' => e = .returned (.tuple #[.int .i64 x, .nilIface]) ∧ More w w' := by
  refine (Any.strconv_Atoi laysAtoi (sB (Lib.itoa x)) x (by rw [sB_size]; exact itoa_len h) (by rw [sB_data]; exact atoi_itoa x) w).mono ?_
  rintro e w' ⟨rfl, t, rfl⟩
  exact ⟨rfl, More.of_below ⟨rfl, rfl, rfl, by rw [Lib.bytesWorld_size]; omega, fun j hj => Lib.bytesWorld_at_old _ _ _ _ hj⟩⟩
theorem impl_FormatIntZ (x : Int) (w : World) (h : -1000 ≤ x ∧ x ≤ 1000) (ht : PowTab w) :
    Calls Tryz.prog 70 #[.int .i64 x] w fun e w' => e = .returned (.string (sB (Lib.itoa x))) ∧ More w w' := by
  have HT := Lib.hid ht; clear ht
  go_enter Tryz.func70, Tryz.ntmps70
  go_wp2_with (go_at_call 68; refine (str_ItoaZ x _ h (HT.out.more mC)).mono ?_; rintro e w1 ⟨rfl, hb1⟩)
  go_ret
  exact ⟨rfl, mC⟩
def fV (x y : Int) : List UInt8 := Lib.itoa x ++ [44] ++ Lib.itoa y
set_option maxRecDepth 4000 in
set_option maxHeartbeats 1600000 in
theorem impl_formatVec (x y : Int) (w : World) (hx : -1000 ≤ x ∧ x ≤ 1000) (hy : -1000 ≤ y ∧ y ≤ 1000) (ht : PowTab w) :
    Calls Tryz.prog 35 #[.agg #[.int .i64 x, .int .i64 y]] w fun e w' => e = .returned (.string (sB (fV x y))) ∧ More w w' := by
  have HT := Lib.hid ht; clear ht
  have KX := Lib.hid hx; have KY := Lib.hid hy; clear hx hy
  have hadd1 : ∀ w, (Op.stringOp .add (sB (Lib.itoa x)) ⟨#[44]⟩).run Tryz.prog w = .ok (.string (sB (Lib.itoa x ++ [44]))) w := fun w => add_run _ _ [44] w (by have := itoa_len KX.out; simp; omega)
  have hadd2 : ∀ w, (Op.stringOp .add (sB (Lib.itoa x ++ [44])) (sB (Lib.itoa y))).run Tryz.prog w = .ok (.string (sB (Lib.itoa x ++ [44] ++ Lib.itoa y))) w := fun w => add_run _ _ _ w (by have := itoa_len KX.out; have := itoa_len KY.out; simp; omega)
  have HX : More (w.alloc (.cells #[.int .i64 x, .int .i64 y] 37)) (w.alloc (.cells #[.int .i64 x, .int .i64 y] 37)) := More.refl _
  have HB : ∀ w', More (w.alloc (.cells #[.int .i64 x, .int .i64 y] 37)) w' → w'.cell? ⟨w.heap.size, 0, none⟩ = some (.int .i64 x) ∧ w'.cell? ⟨w.heap.size, 1, none⟩ = some (.int .i64 y) ∧ (∀ j, w'.frozen? ⟨w.heap.size, j, none⟩ = false) := fun w' h => ⟨box_new (by simp) h 0, box_new (by simp) h 1, fun j => box_free (by simp) h j⟩
  go_enter Tryz.func35, Tryz.ntmps35
  go_wp2_with fail
  go_region_held3 (fun w' => More (w.alloc (.cells #[.int .i64 x, .int .i64 y] 37)) w') (first | exact More.refl _ | exact mC) (first | (go_at_call 70; (with_reducible refine (impl_FormatIntZ x _ KX.out (HT.out.more mC)).mono ?_); rintro e w1 ⟨rfl, hb1⟩) | (go_at_call 70; (with_reducible refine (impl_FormatIntZ y _ KY.out (HT.out.more mC)).mono ?_); rintro e w2 ⟨rfl, hb2⟩))
  all_goals
    go_wp2_with fail
    go_ret
    exact ⟨by unfold fV; rw [List.append_assoc]; rfl, mC⟩
set_option maxHeartbeats 1600000 in
theorem impl_FormatVec (x y : Int) (w : World) (hx : -1000 ≤ x ∧ x ≤ 1000) (hy : -1000 ≤ y ∧ y ≤ 1000) (ht : PowTab w) :
    Calls Tryz.prog 14 #[.agg #[.int .i64 x, .int .i64 y]] w fun e w' => e = .returned (.string (sB (fV x y))) ∧ More w w' := by
  have HT := Lib.hid ht; clear ht
  have KX := Lib.hid hx; have KY := Lib.hid hy
  have HV : Hid (isV (x, y) = true) := Lib.hid (by rw [isV_iff]; simp only; omega)
  clear hx hy
  have HX : More (w.alloc (.cells #[.int .i64 x, .int .i64 y] 37)) (w.alloc (.cells #[.int .i64 x, .int .i64 y] 37)) := More.refl _
  have HB : ∀ w', More (w.alloc (.cells #[.int .i64 x, .int .i64 y] 37)) w' → w'.cell? ⟨w.heap.size, 0, none⟩ = some (.int .i64 x) ∧ w'.cell? ⟨w.heap.size, 1, none⟩ = some (.int .i64 y) ∧ (∀ j, w'.frozen? ⟨w.heap.size, j, none⟩ = false) := fun w' h => ⟨box_new (by simp) h 0, box_new (by simp) h 1, fun j => box_free (by simp) h j⟩
  go_enter Tryz.func14, Tryz.ntmps14
  go_wp2_with (first | (go_at_call 34; refine (impl_isVec x y _).mono ?_; rintro e w1 ⟨rfl, hb1⟩; rw [HV.out]; obtain ⟨p0, p1, pf⟩ := HB w1 mC) | (go_at_call 35; refine (impl_formatVec x y _ KX.out KY.out (HT.out.more mC)).mono ?_; rintro e w2 ⟨rfl, hb2⟩))
  go_ret
  exact ⟨rfl, mC⟩
set_option maxHeartbeats 1600000 in
theorem impl_ParseIntZ (x : Int) (w : World) (hx : -1000 ≤ x ∧ x ≤ 1000) (ht : PowTab w) :
    Calls Tryz.prog 33 #[.string (sB (Lib.itoa x))] w fun e w' => e = .returned (.tuple #[.int .i64 x, .bool true]) ∧ More w w' := by
  have HT := Lib.hid ht; clear ht
  have KX := Lib.hid hx; clear hx
  obtain ⟨l, hl⟩ : ∃ l, l = Lib.itoa x := ⟨_, rfl⟩
  have HL := Lib.hid hl
  rw [← hl]; clear hl
  have hq : ((sB l).toList == (sB l).toList) = true := by simp
  have hq2 : ((sB l).toList != (sB l).toList) = false := by simp
  go_enter Tryz.func33, Tryz.ntmps33
  go_wp2_with (first | (go_at_call 67; rw [HL.out]; refine (str_Atoi x _ KX.out).mono ?_; rintro e w1 ⟨rfl, hb1⟩) | (go_at_call 68; refine (str_ItoaZ x _ KX.out (HT.out.more mC)).mono ?_; rintro e w2 ⟨rfl, hb2⟩; rw [← HL.out]))
  refine bodyPost_ret (v := .tuple #[.int .i64 x, .bool true]) ?_ rfl ⟨rfl, mC⟩
  simp [results, Tryz.results33, go_sem, *]
set_option maxRecDepth 4000 in
set_option maxHeartbeats 3200000 in
theorem impl_ParseVecZ (x y : Int) (w : World) (hx : -1000 ≤ x ∧ x ≤ 1000) (hy : -1000 ≤ y ∧ y ≤ 1000) (ht : PowTab w) :
    Calls Tryz.prog 13 #[.string (sB (fV x y))] w fun e w' => e = .returned (.tuple #[.agg #[.int .i64 x, .int .i64 y], .bool true]) ∧ More w w' := by
  have HT := Lib.hid ht; clear ht
  have KX := Lib.hid hx; have KY := Lib.hid hy
  have HV : Hid (isV (x, y) = true) := Lib.hid (by rw [isV_iff]; simp only; omega)
  clear hx hy
  have HC : Hid (cutC 44 (fV x y) = (Lib.itoa x, Lib.itoa y, true)) := Lib.hid (by
    have h := cutC_app (c := 44) (a := Lib.itoa x) (b := Lib.itoa y) (itoa_comma x)
    rw [← h]
    unfold fV
    rw [List.append_assoc]
    rfl)
  have HLn : Hid ((fV x y).length ≤ 1048576) := Lib.hid (by
    have h1 := itoa_len KX.out
    have h2 := itoa_len KY.out
    unfold fV
    simp
    omega)
  obtain ⟨l, hl⟩ : ∃ l, l = fV x y := ⟨_, rfl⟩
  rw [← hl] at HC HLn ⊢; clear hl
  have N0 : ∀ w', More (w.alloc (.cells #[.int .i64 0, .int .i64 0] 37)) w' → w'.cell? ⟨w.heap.size, 0, none⟩ = some (.int .i64 0) ∧ w'.cell? ⟨w.heap.size, 1, none⟩ = some (.int .i64 0) ∧ ∀ j, w'.frozen? ⟨w.heap.size, j, none⟩ = false := fun w' h => ⟨box_new rfl h 0, box_new rfl h 1, box_free rfl h⟩
  go_enter Tryz.func13, Tryz.ntmps13
  go_wp2_with (first | (go_at_call 23; refine (str_Cut l 44 _ HLn.out).mono ?_; rintro e9 w1 ⟨rfl, hb1⟩; rw [HC.out]) | (go_at_call 33; (with_reducible refine (impl_ParseIntZ x _ KX.out (HT.out.more mC)).mono ?_); rintro e9 w2 ⟨rfl, hb2⟩) | (go_at_call 33; (with_reducible refine (impl_ParseIntZ y _ KY.out (HT.out.more mC)).mono ?_); rintro e9 w3 ⟨rfl, hb3⟩; have M3 := Lib.hid (show More (w.alloc (.cells #[.int .i64 0, .int .i64 0] 37)) w3 from mC)) | (go_at_call 34; refine (impl_isVec x y _).mono ?_; rintro e9 w4 ⟨rfl, hb4⟩; rw [HV.out]; obtain ⟨p0, p1, pf⟩ := N0 w4 (More.trans M3.out mC); have q0 := box_new rfl hb4 0; have q1 := box_new rfl hb4 1))
  refine bodyPost_ret (v := .tuple #[.agg #[.int .i64 x, .int .i64 y], .bool true]) ?_ rfl ⟨rfl, mC2⟩
  simp [results, Tryz.results13, go_sem, *]
end Go.Proofs.YtnbefpfijaimjaaGreatDoor
