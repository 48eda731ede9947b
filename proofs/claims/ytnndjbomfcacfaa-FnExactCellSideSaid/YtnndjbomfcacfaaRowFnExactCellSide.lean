/- FnExactCellSide: the given statement, for every input. No condition. -/
import Derived.Test.YtnndjbomfcacfaaLawCellSide
import Derived.Test.YtnndjbomfcacfaaGFits
import Derived.Test.YtnndjbomfcacfaaFacts
import Derived.OpenShut
namespace Go.Proofs.Ytnndjbomfcacfaa.fnExactCellSide
open Go.ChangeShapes Go.WideShapes Go.ChangeAt Go.RowKit
theorem own : ownKnob Try.prog.godebug = none := facts.own
theorem laid : laidOutB Try.prog = true := facts.laid
theorem kinds : ∀ t ∈ [50, 48], (Try.prog).readableRec t = true ∧ t < (Try.prog).types.size := by
  intro t ht
  have h : ((Try.prog).readableRec t && decide (t < (Try.prog).types.size)) = true := by
    simp only [List.mem_cons, List.not_mem_nil, or_false] at ht
    rcases ht with rfl | rfl <;> kernel_rfl
  rw [Bool.and_eq_true, decide_eq_true_eq] at h
  exact h

set_option maxRecDepth 100000 in
theorem lifted (os : Os) (started : os.Started) (H : Type) (enc : TypeId × Value → H) :
    ReturnsInHanded {} Try.checked os 4 .any (Rows.fnExactCellSideSpec.pre6 enc Try.prog Try.f4 Rows.fnExactCellSideRow.domain false) (Rows.fnExactCellSideSpec.post enc Try.prog Try.f4 false true false false) := by
  refine returnsInHanded_of_change (C := Try.checked) own started (by kernel_rfl) Try.func4
    (ChangeSpec.witness6 (enc := enc) (C := Try.checked) false ⟨#[], #[.agg #[.bool false, .slice none 0 0, .slice none 0 0, .bool false, .slice none 0 0, .slice none 0 0, .bool false, .slice none 0 0, .slice none 0 0, .bool false, .slice none 0 0, .slice none 0 0, .bool false, .slice none 0 0, .slice none 0 0, .bool false, .slice none 0 0, .slice none 0 0], .agg #[.bool false, .slice none 0 0, .slice none 0 0]], []⟩ 8 (by kernel_rfl) (by kernel_rfl) (by kernel_rfl) (by kernel_rfl)) ?_
  intro W base args ds gs before hval0 hW hcnd _
  have hval : ∀ (j : Nat) t v, (Try.f4).params[j]? = some t → args[j]? = some v → Value.okWide Try.prog W .any base t v := hval0
  have hW' := hW
  obtain ⟨p, q, hA0, hV, rfl, hfz, hnd⟩ := hW
  have hA : DataW.TrodAll enc Try.prog W 0 (fun _ => true) true (Try.f4).params.toList args.toList ds p := hA0
  have hall := hA
  rw [Try.params4] at hA hval hall
  obtain ⟨v0, vs0, d0, ds0, p0, q0, hargs, rfl, rfl, h0, r0⟩ := trodAll_cons hA
  obtain ⟨v1, vs1, d1, ds1, p1, q1, rfl, rfl, rfl, h1, r1⟩ := trodAll_cons r0
  obtain ⟨rfl, rfl, rfl⟩ := trodAll_nil r1
  obtain rfl : args = #[v0, v1] := by cases args; simp_all
  obtain ⟨rfl, rfl⟩ := trodVars_none hV
  obtain ⟨fu0, g0⟩ := h0
  obtain ⟨cs0, rfl⟩ := okWide_struct Try.underlying50 (hval 0 50 v0 rfl rfl)
  obtain ⟨x0, k0⟩ := fitsLCell enc W 0 (fun _ => true) true fu0 _ _ g0
  obtain ⟨fu1, g1⟩ := h1
  obtain ⟨cs1, rfl⟩ := okWide_struct Try.underlying48 (hval 1 48 v1 rfl rfl)
  obtain ⟨x1, k1⟩ := fitsLRat enc W 0 (fun _ => true) true fu1 _ _ g1
  clear hA0 hval0
  refine (law_CellSide _ x0 k0 _ x1 k1).mono fun e W' ⟨he, hg⟩ => ?_
  subst he
  obtain ⟨pp, hpp⟩ := (⟨_, hall⟩ : ∃ pp, DataW.TrodAll enc Try.prog W 0 (fun _ => true) true _ _ _ pp)
  refine ⟨_, rfl, ⟨_, _, _, [], pp, [], hW', ?_, ?_, rfl, Below.frame hg.out _, fun h => by cases h⟩⟩
  · exact trodAll_cons_mk (shut_bool Try.underlying4 _) trodAll_mk0
  · rw [Try.params4]
    exact args_stay laid hg.1 _ _ _ _ kinds hpp

theorem named_ : (Try.prog).funcNamed Rows.fnExactCellSideRow.func = some 4 := by kernel_rfl
theorem and_mk {a b : Bool} (h : a = true) (k : b = true) : (a && b) = true := by rw [h, k]; rfl
theorem keys_ : (Rows.fnExactCellSideRow.plainKeys == (Try.prog).plainKeys) = true := facts.keys
theorem lift_ : (Rows.fnExactCellSideRow.lifted == (Try.prog).liftsFinal) = true := facts.lift
theorem make_ : ((Try.prog).make == some Rows.fnExactCellSideRow.make) = true := facts.make_
set_option maxHeartbeats 8000000 in
theorem joined_ : joinedFacts Try.prog 4 Try.f4 Rows.fnExactCellSideSpec Rows.fnExactCellSideRow = true := by
  unfold joinedFacts
  repeat' (with_reducible apply and_mk)
  all_goals (first | (with_reducible exact facts.laid) | (with_reducible exact facts.mapsR) | (with_reducible exact facts.heard) | (with_reducible exact facts.enter) | (with_reducible exact keys_) | (with_reducible exact lift_) | (with_reducible exact make_) | (as_aux_lemma => kernel_rfl))
theorem inst_ : (Try.f4).isInstance Try.prog Rows.fnExactCellSideRow.origin Rows.fnExactCellSideRow.targs := of_decide_eq_true (by kernel_rfl)
theorem wrap_ : (Try.f4).isWrapper Try.prog Rows.fnExactCellSideRow.wrapper Rows.fnExactCellSideRow.mainSum := by unfold Func.isWrapper; first | (rw [if_pos (by decide +kernel)]; kernel_rfl) | (rw [if_neg (by decide +kernel)]; exact ⟨rfl, rfl⟩)
theorem over : Rows.fnExactCellSideRow.holds Try.pinned (OpenSpec.ofChange Rows.fnExactCellSideSpec) :=
  OpenClaim.holds_of_wide 4 Try.f4 rfl rfl rfl rfl rfl rfl rfl ⟨rfl, rfl, rfl, rfl, rfl⟩ rfl rfl rfl rfl rfl named_ Try.func4 joined_ inst_ wrap_
    (fun os started H enc _ => lifted os started H enc)

/-- The given statement. -/
theorem proved : Rows.FnExactCellSideSaid := over
#print axioms proved
end Go.Proofs.Ytnndjbomfcacfaa.fnExactCellSide
