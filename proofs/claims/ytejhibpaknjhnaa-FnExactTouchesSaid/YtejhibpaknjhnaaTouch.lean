/- Touches: the reference's and the program's. -/
import Derived.Test.YtejhibpaknjhnaaSep
namespace Go.Proofs.Ytejhibpaknjhnaa
open Go.RowKit
noncomputable def touchF (a b : List QV) : Bool := isPoly a && isPoly b && decide (sepF a b < 0) && decide (sepF b a < 0)
theorem sepF_U {a b : List QV} (pa : isPoly a = true) (pb : isPoly b = true) : sepF a b = sepU a b := by rw [sepF, pa, pb]; rfl
set_option maxHeartbeats 3200000 in
theorem spec_Touches (v v' : Value) (a b : List QV) (w : World) (hv : tVecs.at w [v] a) (hv' : tVecs.at w [v'] b) (hl : a.length ≤ 1048576) (hm : b.length ≤ 1048576) :
    Calls Try.prog 23 #[v, v'] w fun e w' => e = .returned (.bool (touchF a b)) ∧ More w w' := by
  have Ha := Lib.hid hv; have Hb := Lib.hid hv'
  have La := Lib.hid hl; have Lb := Lib.hid hm
  clear hv hv' hl hm
  rcases Bool.eq_false_or_eq_true (isPoly a) with pa | pa
  rotate_left
  · have Pa := Lib.hid pa
    clear pa
    go_enter Try.func23, Try.ntmps23
    go_wp2_with fail
    refine (spec_IsPolygon _ a _ (Ty.at_more Ha.out (Turns.more (by repeat (first | (with_reducible exact Turns.refl _ _) | (with_reducible apply Turns.drew) | (with_reducible apply Turns.drewN) | (with_reducible apply Turns.alloc) | (with_reducible refine Turns.via (by assumption) ?_))))) La.out).mono ?_; rintro e w1 ⟨rfl, hb1⟩
    rw [Pa.out]
    go_wp2_with fail
    go_ret
    exact ⟨ret_bool (by rw [touchF, Pa.out]; rfl), (Turns.more (by repeat (first | (with_reducible exact Turns.refl _ _) | (with_reducible apply Turns.drew) | (with_reducible apply Turns.drewN) | (with_reducible apply Turns.alloc) | (with_reducible refine Turns.via (by assumption) ?_))))⟩
  rcases Bool.eq_false_or_eq_true (isPoly b) with pb | pb
  rotate_left
  · have Pa := Lib.hid pa; have Pb := Lib.hid pb
    clear pa pb
    go_enter Try.func23, Try.ntmps23
    go_wp2_with fail
    refine (spec_IsPolygon _ a _ (Ty.at_more Ha.out (Turns.more (by repeat (first | (with_reducible exact Turns.refl _ _) | (with_reducible apply Turns.drew) | (with_reducible apply Turns.drewN) | (with_reducible apply Turns.alloc) | (with_reducible refine Turns.via (by assumption) ?_))))) La.out).mono ?_; rintro e w1 ⟨rfl, hb1⟩
    rw [Pa.out]
    go_wp2_with fail
    refine (spec_IsPolygon _ b _ (Ty.at_more Hb.out (Turns.more (by repeat (first | (with_reducible exact Turns.refl _ _) | (with_reducible apply Turns.drew) | (with_reducible apply Turns.drewN) | (with_reducible apply Turns.alloc) | (with_reducible refine Turns.via (by assumption) ?_))))) Lb.out).mono ?_; rintro e w2 ⟨rfl, hb2⟩
    rw [Pb.out]
    go_wp2_with fail
    go_ret
    exact ⟨ret_bool (by rw [touchF, Pb.out]; simp), (Turns.more (by repeat (first | (with_reducible exact Turns.refl _ _) | (with_reducible apply Turns.drew) | (with_reducible apply Turns.drewN) | (with_reducible apply Turns.alloc) | (with_reducible refine Turns.via (by assumption) ?_))))⟩
  have Pa := Lib.hid pa; have Pb := Lib.hid pb
  have Va := Lib.hid (poly_isV' pa); have Vb := Lib.hid (poly_isV' pb)
  have E1 : Hid (sepF a b = sepU a b) := Lib.hid (sepF_U pa pb)
  have E2 : Hid (sepF b a = sepU b a) := Lib.hid (sepF_U pb pa)
  have ET : Hid (touchF a b = (decide (sepF a b < 0) && decide (sepF b a < 0))) := Lib.hid (by rw [touchF, pa, pb]; rfl)
  clear pa pb
  by_cases s1 : sepF a b < 0
  · by_cases s2 : sepF b a < 0
    all_goals
      have HS1 := Lib.hid s1; have HS2 := Lib.hid s2
      go_enter Try.func23, Try.ntmps23
      go_wp2_with fail
      refine (spec_IsPolygon _ a _ (Ty.at_more Ha.out (Turns.more (by repeat (first | (with_reducible exact Turns.refl _ _) | (with_reducible apply Turns.drew) | (with_reducible apply Turns.drewN) | (with_reducible apply Turns.alloc) | (with_reducible refine Turns.via (by assumption) ?_))))) La.out).mono ?_; rintro e w1 ⟨rfl, hb1⟩
      rw [Pa.out]
      go_wp2_with fail
      refine (spec_IsPolygon _ b _ (Ty.at_more Hb.out (Turns.more (by repeat (first | (with_reducible exact Turns.refl _ _) | (with_reducible apply Turns.drew) | (with_reducible apply Turns.drewN) | (with_reducible apply Turns.alloc) | (with_reducible refine Turns.via (by assumption) ?_))))) Lb.out).mono ?_; rintro e w2 ⟨rfl, hb2⟩
      rw [Pb.out]
      go_wp2_with fail
      refine (spec_SeparatingEdge _ _ a b _ (Ty.at_more Ha.out (Turns.more (by repeat (first | (with_reducible exact Turns.refl _ _) | (with_reducible apply Turns.drew) | (with_reducible apply Turns.drewN) | (with_reducible apply Turns.alloc) | (with_reducible refine Turns.via (by assumption) ?_))))) (Ty.at_more Hb.out (Turns.more (by repeat (first | (with_reducible exact Turns.refl _ _) | (with_reducible apply Turns.drew) | (with_reducible apply Turns.drewN) | (with_reducible apply Turns.alloc) | (with_reducible refine Turns.via (by assumption) ?_))))) La.out Lb.out).mono ?_; rintro e w3 ⟨rfl, hb3⟩
      go_wp2_with fail
      refine (spec_SeparatingEdge _ _ b a _ (Ty.at_more Hb.out (Turns.more (by repeat (first | (with_reducible exact Turns.refl _ _) | (with_reducible apply Turns.drew) | (with_reducible apply Turns.drewN) | (with_reducible apply Turns.alloc) | (with_reducible refine Turns.via (by assumption) ?_))))) (Ty.at_more Ha.out (Turns.more (by repeat (first | (with_reducible exact Turns.refl _ _) | (with_reducible apply Turns.drew) | (with_reducible apply Turns.drewN) | (with_reducible apply Turns.alloc) | (with_reducible refine Turns.via (by assumption) ?_))))) Lb.out La.out).mono ?_; rintro e w4 ⟨rfl, hb4⟩
      go_wp2_with fail
      go_ret
      exact ⟨ret_bool (by rw [ET.out]; have := HS1.out; have := HS2.out; simp [*] <;> omega), (Turns.more (by repeat (first | (with_reducible exact Turns.refl _ _) | (with_reducible apply Turns.drew) | (with_reducible apply Turns.drewN) | (with_reducible apply Turns.alloc) | (with_reducible refine Turns.via (by assumption) ?_))))⟩
  · have HS1 := Lib.hid s1
    go_enter Try.func23, Try.ntmps23
    go_wp2_with fail
    refine (spec_IsPolygon _ a _ (Ty.at_more Ha.out (Turns.more (by repeat (first | (with_reducible exact Turns.refl _ _) | (with_reducible apply Turns.drew) | (with_reducible apply Turns.drewN) | (with_reducible apply Turns.alloc) | (with_reducible refine Turns.via (by assumption) ?_))))) La.out).mono ?_; rintro e w1 ⟨rfl, hb1⟩
    rw [Pa.out]
    go_wp2_with fail
    refine (spec_IsPolygon _ b _ (Ty.at_more Hb.out (Turns.more (by repeat (first | (with_reducible exact Turns.refl _ _) | (with_reducible apply Turns.drew) | (with_reducible apply Turns.drewN) | (with_reducible apply Turns.alloc) | (with_reducible refine Turns.via (by assumption) ?_))))) Lb.out).mono ?_; rintro e w2 ⟨rfl, hb2⟩
    rw [Pb.out]
    go_wp2_with fail
    refine (spec_SeparatingEdge _ _ a b _ (Ty.at_more Ha.out (Turns.more (by repeat (first | (with_reducible exact Turns.refl _ _) | (with_reducible apply Turns.drew) | (with_reducible apply Turns.drewN) | (with_reducible apply Turns.alloc) | (with_reducible refine Turns.via (by assumption) ?_))))) (Ty.at_more Hb.out (Turns.more (by repeat (first | (with_reducible exact Turns.refl _ _) | (with_reducible apply Turns.drew) | (with_reducible apply Turns.drewN) | (with_reducible apply Turns.alloc) | (with_reducible refine Turns.via (by assumption) ?_))))) La.out Lb.out).mono ?_; rintro e w3 ⟨rfl, hb3⟩
    go_wp2_with fail
    go_ret
    exact ⟨ret_bool (by rw [ET.out]; have := HS1.out; simp; omega), (Turns.more (by repeat (first | (with_reducible exact Turns.refl _ _) | (with_reducible apply Turns.drew) | (with_reducible apply Turns.drewN) | (with_reducible apply Turns.alloc) | (with_reducible refine Turns.via (by assumption) ?_))))⟩
set_option maxHeartbeats 3200000 in
theorem impl_Touches (v v' : Value) (a b : List QV) (w : World) (hv : tVecs.at w [v] a) (hv' : tVecs.at w [v'] b) (hl : a.length ≤ 1048576) (hm : b.length ≤ 1048576) :
    Calls Try.prog 24 #[v, v'] w fun e w' => e = .returned (.bool (touchF a b)) ∧ More w w' := by
  have Ha := Lib.hid hv; have Hb := Lib.hid hv'
  have La := Lib.hid hl; have Lb := Lib.hid hm
  clear hv hv' hl hm
  rcases Bool.eq_false_or_eq_true (isPoly a) with pa | pa
  rotate_left
  · have Pa := Lib.hid pa
    clear pa
    go_enter Try.func24, Try.ntmps24
    go_wp2_with fail
    refine (impl_IsPolygon _ a _ (Ty.at_more Ha.out (Turns.more (by repeat (first | (with_reducible exact Turns.refl _ _) | (with_reducible apply Turns.drew) | (with_reducible apply Turns.drewN) | (with_reducible apply Turns.alloc) | (with_reducible refine Turns.via (by assumption) ?_))))) La.out).mono ?_; rintro e w1 ⟨rfl, hb1⟩
    rw [Pa.out]
    go_wp2_with fail
    go_ret
    exact ⟨ret_bool (by rw [touchF, Pa.out]; rfl), (Turns.more (by repeat (first | (with_reducible exact Turns.refl _ _) | (with_reducible apply Turns.drew) | (with_reducible apply Turns.drewN) | (with_reducible apply Turns.alloc) | (with_reducible refine Turns.via (by assumption) ?_))))⟩
  rcases Bool.eq_false_or_eq_true (isPoly b) with pb | pb
  rotate_left
  · have Pa := Lib.hid pa; have Pb := Lib.hid pb
    clear pa pb
    go_enter Try.func24, Try.ntmps24
    go_wp2_with fail
    refine (impl_IsPolygon _ a _ (Ty.at_more Ha.out (Turns.more (by repeat (first | (with_reducible exact Turns.refl _ _) | (with_reducible apply Turns.drew) | (with_reducible apply Turns.drewN) | (with_reducible apply Turns.alloc) | (with_reducible refine Turns.via (by assumption) ?_))))) La.out).mono ?_; rintro e w1 ⟨rfl, hb1⟩
    rw [Pa.out]
    go_wp2_with fail
    refine (impl_IsPolygon _ b _ (Ty.at_more Hb.out (Turns.more (by repeat (first | (with_reducible exact Turns.refl _ _) | (with_reducible apply Turns.drew) | (with_reducible apply Turns.drewN) | (with_reducible apply Turns.alloc) | (with_reducible refine Turns.via (by assumption) ?_))))) Lb.out).mono ?_; rintro e w2 ⟨rfl, hb2⟩
    rw [Pb.out]
    go_wp2_with fail
    go_ret
    exact ⟨ret_bool (by rw [touchF, Pb.out]; simp), (Turns.more (by repeat (first | (with_reducible exact Turns.refl _ _) | (with_reducible apply Turns.drew) | (with_reducible apply Turns.drewN) | (with_reducible apply Turns.alloc) | (with_reducible refine Turns.via (by assumption) ?_))))⟩
  have Pa := Lib.hid pa; have Pb := Lib.hid pb
  have Va := Lib.hid (poly_isV' pa); have Vb := Lib.hid (poly_isV' pb)
  have E1 : Hid (sepF a b = sepU a b) := Lib.hid (sepF_U pa pb)
  have E2 : Hid (sepF b a = sepU b a) := Lib.hid (sepF_U pb pa)
  have ET : Hid (touchF a b = (decide (sepF a b < 0) && decide (sepF b a < 0))) := Lib.hid (by rw [touchF, pa, pb]; rfl)
  clear pa pb
  by_cases s1 : sepU a b < 0
  · by_cases s2 : sepU b a < 0
    all_goals
      have HS1 := Lib.hid s1; have HS2 := Lib.hid s2
      go_enter Try.func24, Try.ntmps24
      go_wp2_with fail
      refine (impl_IsPolygon _ a _ (Ty.at_more Ha.out (Turns.more (by repeat (first | (with_reducible exact Turns.refl _ _) | (with_reducible apply Turns.drew) | (with_reducible apply Turns.drewN) | (with_reducible apply Turns.alloc) | (with_reducible refine Turns.via (by assumption) ?_))))) La.out).mono ?_; rintro e w1 ⟨rfl, hb1⟩
      rw [Pa.out]
      go_wp2_with fail
      refine (impl_IsPolygon _ b _ (Ty.at_more Hb.out (Turns.more (by repeat (first | (with_reducible exact Turns.refl _ _) | (with_reducible apply Turns.drew) | (with_reducible apply Turns.drewN) | (with_reducible apply Turns.alloc) | (with_reducible refine Turns.via (by assumption) ?_))))) Lb.out).mono ?_; rintro e w2 ⟨rfl, hb2⟩
      rw [Pb.out]
      go_wp2_with fail
      refine (impl_separating _ _ a b _ (Ty.at_more Ha.out (Turns.more (by repeat (first | (with_reducible exact Turns.refl _ _) | (with_reducible apply Turns.drew) | (with_reducible apply Turns.drewN) | (with_reducible apply Turns.alloc) | (with_reducible refine Turns.via (by assumption) ?_))))) (Ty.at_more Hb.out (Turns.more (by repeat (first | (with_reducible exact Turns.refl _ _) | (with_reducible apply Turns.drew) | (with_reducible apply Turns.drewN) | (with_reducible apply Turns.alloc) | (with_reducible refine Turns.via (by assumption) ?_))))) La.out Lb.out Va.out Vb.out).mono ?_; rintro e w3 ⟨rfl, hb3⟩
      go_wp2_with fail
      refine (impl_separating _ _ b a _ (Ty.at_more Hb.out (Turns.more (by repeat (first | (with_reducible exact Turns.refl _ _) | (with_reducible apply Turns.drew) | (with_reducible apply Turns.drewN) | (with_reducible apply Turns.alloc) | (with_reducible refine Turns.via (by assumption) ?_))))) (Ty.at_more Ha.out (Turns.more (by repeat (first | (with_reducible exact Turns.refl _ _) | (with_reducible apply Turns.drew) | (with_reducible apply Turns.drewN) | (with_reducible apply Turns.alloc) | (with_reducible refine Turns.via (by assumption) ?_))))) Lb.out La.out Vb.out Va.out).mono ?_; rintro e w4 ⟨rfl, hb4⟩
      go_wp2_with fail
      go_ret
      exact ⟨ret_bool (by rw [ET.out, E1.out, E2.out]; have := HS1.out; have := HS2.out; simp [*] <;> omega), (Turns.more (by repeat (first | (with_reducible exact Turns.refl _ _) | (with_reducible apply Turns.drew) | (with_reducible apply Turns.drewN) | (with_reducible apply Turns.alloc) | (with_reducible refine Turns.via (by assumption) ?_))))⟩
  · have HS1 := Lib.hid s1
    go_enter Try.func24, Try.ntmps24
    go_wp2_with fail
    refine (impl_IsPolygon _ a _ (Ty.at_more Ha.out (Turns.more (by repeat (first | (with_reducible exact Turns.refl _ _) | (with_reducible apply Turns.drew) | (with_reducible apply Turns.drewN) | (with_reducible apply Turns.alloc) | (with_reducible refine Turns.via (by assumption) ?_))))) La.out).mono ?_; rintro e w1 ⟨rfl, hb1⟩
    rw [Pa.out]
    go_wp2_with fail
    refine (impl_IsPolygon _ b _ (Ty.at_more Hb.out (Turns.more (by repeat (first | (with_reducible exact Turns.refl _ _) | (with_reducible apply Turns.drew) | (with_reducible apply Turns.drewN) | (with_reducible apply Turns.alloc) | (with_reducible refine Turns.via (by assumption) ?_))))) Lb.out).mono ?_; rintro e w2 ⟨rfl, hb2⟩
    rw [Pb.out]
    go_wp2_with fail
    refine (impl_separating _ _ a b _ (Ty.at_more Ha.out (Turns.more (by repeat (first | (with_reducible exact Turns.refl _ _) | (with_reducible apply Turns.drew) | (with_reducible apply Turns.drewN) | (with_reducible apply Turns.alloc) | (with_reducible refine Turns.via (by assumption) ?_))))) (Ty.at_more Hb.out (Turns.more (by repeat (first | (with_reducible exact Turns.refl _ _) | (with_reducible apply Turns.drew) | (with_reducible apply Turns.drewN) | (with_reducible apply Turns.alloc) | (with_reducible refine Turns.via (by assumption) ?_))))) La.out Lb.out Va.out Vb.out).mono ?_; rintro e w3 ⟨rfl, hb3⟩
    go_wp2_with fail
    go_ret
    exact ⟨ret_bool (by rw [ET.out, E1.out, E2.out]; have := HS1.out; simp; omega), (Turns.more (by repeat (first | (with_reducible exact Turns.refl _ _) | (with_reducible apply Turns.drew) | (with_reducible apply Turns.drewN) | (with_reducible apply Turns.alloc) | (with_reducible refine Turns.via (by assumption) ?_))))⟩
end Go.Proofs.Ytejhibpaknjhnaa
