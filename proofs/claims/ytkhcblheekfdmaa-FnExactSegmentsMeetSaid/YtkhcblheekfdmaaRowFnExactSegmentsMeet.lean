/- FnExactSegmentsMeet: the given statement, for every input. No condition. -/
import Derived.Test.YtkhcblheekfdmaaLawSegmentsMeet
import Derived.Test.YtkhcblheekfdmaaGFits
import Derived.Test.YtkhcblheekfdmaaFacts
import Derived.OpenShut
namespace Go.Proofs.Ytkhcblheekfdmaa.fnExactSegmentsMeet
open Go.ChangeShapes Go.WideShapes Go.ChangeAt Go.RowKit
theorem own : ownKnob Try.prog.godebug = none := facts.own
theorem laid : laidOutB Try.prog = true := facts.laid
theorem kinds : ∀ t ∈ [82, 82, 82, 82], (Try.prog).readableRec t = true ∧ t < (Try.prog).types.size := by
  intro t ht
  have h : ((Try.prog).readableRec t && decide (t < (Try.prog).types.size)) = true := by
    simp only [List.mem_cons, List.not_mem_nil, or_false] at ht
    rcases ht with rfl | rfl | rfl | rfl <;> kernel_rfl
  rw [Bool.and_eq_true, decide_eq_true_eq] at h
  exact h

set_option maxRecDepth 100000 in
theorem lifted (os : Os) (started : os.Started) (H : Type) (enc : TypeId × Value → H) :
    ReturnsInHanded {} Try.checked os 16 .any (Rows.fnExactSegmentsMeetSpec.pre6 enc Try.prog Try.f16 Rows.fnExactSegmentsMeetRow.domain false) (Rows.fnExactSegmentsMeetSpec.post enc Try.prog Try.f16 false true false false) := by
  refine returnsInHanded_of_change (C := Try.checked) own started (by kernel_rfl) Try.func16
    (ChangeSpec.witness6 (enc := enc) (C := Try.checked) false ⟨#[], #[.agg #[.bool false, .slice none 0 0, .slice none 0 0, .bool false, .slice none 0 0, .slice none 0 0], .agg #[.bool false, .slice none 0 0, .slice none 0 0, .bool false, .slice none 0 0, .slice none 0 0], .agg #[.bool false, .slice none 0 0, .slice none 0 0, .bool false, .slice none 0 0, .slice none 0 0], .agg #[.bool false, .slice none 0 0, .slice none 0 0, .bool false, .slice none 0 0, .slice none 0 0]], []⟩ 8 (by kernel_rfl) (by kernel_rfl) (by kernel_rfl) (by kernel_rfl)) ?_
  intro W base args ds gs before hval0 hW hcnd _
  have hval : ∀ (j : Nat) t v, (Try.f16).params[j]? = some t → args[j]? = some v → Value.okWide Try.prog W .any base t v := hval0
  have hW' := hW
  obtain ⟨p, q, hA0, hV, rfl, hfz, hnd⟩ := hW
  have hA : DataW.TrodAll enc Try.prog W 0 (fun _ => true) true (Try.f16).params.toList args.toList ds p := hA0
  have hall := hA
  rw [Try.params16] at hA hval hall
  obtain ⟨v0, vs0, d0, ds0, p0, q0, hargs, rfl, rfl, h0, r0⟩ := trodAll_cons hA
  obtain ⟨v1, vs1, d1, ds1, p1, q1, rfl, rfl, rfl, h1, r1⟩ := trodAll_cons r0
  obtain ⟨v2, vs2, d2, ds2, p2, q2, rfl, rfl, rfl, h2, r2⟩ := trodAll_cons r1
  obtain ⟨v3, vs3, d3, ds3, p3, q3, rfl, rfl, rfl, h3, r3⟩ := trodAll_cons r2
  obtain ⟨rfl, rfl, rfl⟩ := trodAll_nil r3
  obtain rfl : args = #[v0, v1, v2, v3] := by cases args; simp_all
  obtain ⟨rfl, rfl⟩ := trodVars_none hV
  obtain ⟨fu0, g0⟩ := h0
  obtain ⟨cs0, rfl⟩ := okWide_struct Try.underlying82 (hval 0 82 v0 rfl rfl)
  obtain ⟨x0, k0⟩ := fitsLPoint enc W 0 (fun _ => true) true fu0 _ _ g0
  obtain ⟨fu1, g1⟩ := h1
  obtain ⟨cs1, rfl⟩ := okWide_struct Try.underlying82 (hval 1 82 v1 rfl rfl)
  obtain ⟨x1, k1⟩ := fitsLPoint enc W 0 (fun _ => true) true fu1 _ _ g1
  obtain ⟨fu2, g2⟩ := h2
  obtain ⟨cs2, rfl⟩ := okWide_struct Try.underlying82 (hval 2 82 v2 rfl rfl)
  obtain ⟨x2, k2⟩ := fitsLPoint enc W 0 (fun _ => true) true fu2 _ _ g2
  obtain ⟨fu3, g3⟩ := h3
  obtain ⟨cs3, rfl⟩ := okWide_struct Try.underlying82 (hval 3 82 v3 rfl rfl)
  obtain ⟨x3, k3⟩ := fitsLPoint enc W 0 (fun _ => true) true fu3 _ _ g3
  clear hA0 hval0
  refine (law_SegmentsMeet _ x0 k0 _ x1 k1 _ x2 k2 _ x3 k3).mono fun e W' ⟨he, hg⟩ => ?_
  subst he
  obtain ⟨pp, hpp⟩ := (⟨_, hall⟩ : ∃ pp, DataW.TrodAll enc Try.prog W 0 (fun _ => true) true _ _ _ pp)
  refine ⟨_, rfl, ⟨_, _, _, [], pp, [], hW', ?_, ?_, rfl, Below.frame hg _, fun h => by cases h⟩⟩
  · exact trodAll_cons_mk (shut_bool Try.underlying4 _) trodAll_mk0
  · rw [Try.params16]
    exact args_stay laid hg _ _ _ _ kinds hpp

theorem named_ : (Try.prog).funcNamed Rows.fnExactSegmentsMeetRow.func = some 16 := by kernel_rfl
theorem and_mk {a b : Bool} (h : a = true) (k : b = true) : (a && b) = true := by rw [h, k]; rfl
theorem keys_ : (Rows.fnExactSegmentsMeetRow.plainKeys == (Try.prog).plainKeys) = true := facts.keys
theorem lift_ : (Rows.fnExactSegmentsMeetRow.lifted == (Try.prog).liftsFinal) = true := facts.lift
theorem make_ : ((Try.prog).make == some Rows.fnExactSegmentsMeetRow.make) = true := facts.make_
set_option maxHeartbeats 8000000 in
theorem joined_ : joinedFacts Try.prog 16 Try.f16 Rows.fnExactSegmentsMeetSpec Rows.fnExactSegmentsMeetRow = true := by
  unfold joinedFacts
  repeat' (with_reducible apply and_mk)
  all_goals (first | (with_reducible exact facts.laid) | (with_reducible exact facts.mapsR) | (with_reducible exact facts.heard) | (with_reducible exact facts.enter) | (with_reducible exact keys_) | (with_reducible exact lift_) | (with_reducible exact make_) | (as_aux_lemma => kernel_rfl))
theorem inst_ : (Try.f16).isInstance Try.prog Rows.fnExactSegmentsMeetRow.origin Rows.fnExactSegmentsMeetRow.targs := of_decide_eq_true (by kernel_rfl)
theorem wrap_ : (Try.f16).isWrapper Try.prog Rows.fnExactSegmentsMeetRow.wrapper Rows.fnExactSegmentsMeetRow.mainSum := by unfold Func.isWrapper; first | (rw [if_pos (by decide +kernel)]; kernel_rfl) | (rw [if_neg (by decide +kernel)]; exact ⟨rfl, rfl⟩)
theorem over : Rows.fnExactSegmentsMeetRow.holds Try.pinned (OpenSpec.ofChange Rows.fnExactSegmentsMeetSpec) :=
  OpenClaim.holds_of_wide 16 Try.f16 rfl rfl rfl rfl rfl rfl rfl ⟨rfl, rfl, rfl, rfl, rfl⟩ rfl rfl rfl rfl rfl named_ Try.func16 joined_ inst_ wrap_
    (fun os started H enc _ => lifted os started H enc)

/-- The given statement. -/
theorem proved : Rows.FnExactSegmentsMeetSaid := over
#print axioms proved
end Go.Proofs.Ytkhcblheekfdmaa.fnExactSegmentsMeet
