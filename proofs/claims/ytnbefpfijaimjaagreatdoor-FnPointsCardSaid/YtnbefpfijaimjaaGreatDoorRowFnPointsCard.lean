/- FnPoints: the given card, for every input. -/
import Derived.Test.YtnbefpfijaimjaaGreatDoorLawPoints
import Derived.Test.YtnbefpfijaimjaaGreatDoorFitC
import Derived.Test.YtnbefpfijaimjaaGreatDoorFacts
import Derived.Test.YtnbefpfijaimjaaGreatDoorCards
import Derived.Test.YtnbefpfijaimjaaGreatDoorTie
import Derived.ProofKit
import Derived.OpenShut
import Derived.LaidMore
import Derived.Lay
import Derived.LaidOnce
import Derived.Stop.LaidErr
import Derived.SevenTiedAt
namespace Go.Proofs.YtnbefpfijaimjaaGreatDoor.fnPoints
open Go.ChangeShapes Go.WideShapes Go.ChangeAt Go.RowKit Go.WideMaps Go.ChangeMaps
theorem own : ownKnob Tryz.prog.godebug = none := facts.own
theorem laid : laidOutB Tryz.prog = true := facts.laid
theorem kinds : ∀ t ∈ [34], (Tryz.prog).readableRec t = true ∧ t < (Tryz.prog).types.size := by
  intro t ht
  have h : ((Tryz.prog).readableRec t && decide (t < (Tryz.prog).types.size)) = true := by
    simp only [List.mem_cons, List.not_mem_nil, or_false] at ht
    rcases ht with rfl <;> kernel_rfl
  rw [Bool.and_eq_true, decide_eq_true_eq] at h
  exact h
theorem tabEq : (Rows.laid_internal_strconv_uint64pow10 : DataW Unit) = Lib.tabData .u64 Lib.pow10Tab := by kernel_rfl
/-- The listed table, as the walks want it. -/
theorem pow_of {W : World} (h : laidMetH Tryz.prog Rows.fnPointsRow.laid W) : PowTab W := by
  rw [MakeChecks.laidMetH_plain _ _ _ (by kernel_rfl)] at h
  have h2 := h.tail.tail
  rw [tabEq] at h2
  exact Lib.tabIs_of_head (g := 3) (t := 174) (e := 152) (n := 20) (by kernel_rfl) (by kernel_rfl) Tryz.underlying174 Tryz.underlying152 (by kernel_rfl) (by kernel_rfl) h2

set_option maxRecDepth 100000 in
theorem lifted (os : Os) (started : os.Started) (H : Type) (enc : TypeId × Value → H) :
    ReturnsInHanded {} Tryz.checked os 4 .any (fun w args => (Rows.fnPointsSpec.pre enc Tryz.prog Tryz.f4 [] false w args ∧ laidMetH Tryz.prog Rows.fnPointsRow.laid w) ∧ sizedMet enc Tryz.prog Tryz.f4 (OpenSpec.ofChange Rows.fnPointsSpec) false w args) (Rows.fnPointsSpec.post enc Tryz.prog Tryz.f4 false true false false) := by
  refine returnsInHanded_of_change_and (C := Tryz.checked) (X := fun w _ => laidMetH Tryz.prog Rows.fnPointsRow.laid w) (fun _ _ _ hh h => h.of_heap hh) own started (by kernel_rfl) Tryz.func4
    (ChangeSpec.witness_shaped (enc := enc) (C := Tryz.checked) (os := os) (X := fun w _ => laidMetH Tryz.prog Rows.fnPointsRow.laid w) false (World.laidAll Tryz.prog os Rows.fnPointsRow.laid) #[.slice none 0 0] 8 (World.laidAll_os _ _ _) (World.shaped_of_ZipB (by kernel_rfl) (by kernel_rfl)) (by kernel_rfl) (by kernel_rfl) (by kernel_rfl)
      (by rw [MakeChecks.laidMetH_plain _ _ _ (by kernel_rfl)]; exact laidMet_laidAll _ (by kernel_rfl) (by kernel_rfl))) ?_
  intro W base args ds gs before hval0 hW hcnd _ hL _
  have hval : ∀ (j : Nat) t v, (Tryz.f4).params[j]? = some t → args[j]? = some v → Value.okWide Tryz.prog W .any base t v := hval0
  have hW' := hW
  obtain ⟨p, q, hA0, hV, rfl, hfz, hnd⟩ := hW
  have hA : DataW.TrodAll enc Tryz.prog W 0 (fun _ => true) true (Tryz.f4).params.toList args.toList ds p := hA0
  have hall := hA
  rw [Tryz.params4] at hA hval hall
  obtain ⟨v0, vs0, d0, ds0, p0, q0, hargs, rfl, rfl, h0, r0⟩ := trodAll_cons hA
  obtain ⟨rfl, rfl, rfl⟩ := trodAll_nil r0
  obtain rfl : args = #[v0] := by cases args; simp_all
  obtain ⟨rfl, rfl⟩ := trodVars_none hV
  obtain ⟨fu0, g0⟩ := h0
  obtain ⟨ao0, len0, cap0, rfl⟩ := okWide_slice Tryz.underlying34 (hval 0 34 v0 rfl rfl)
  obtain ⟨x0, k0⟩ := fitsCode enc W 0 (fun _ => true) true fu0 _ _ g0
  clear hA0 hval0
  refine (law_Points _ x0 k0 (pow_of hL)).mono fun e W' ⟨he, hg⟩ => ?_
  subst he
  obtain ⟨pp, hpp⟩ := (⟨_, hall⟩ : ∃ pp, DataW.TrodAll enc Tryz.prog W 0 (fun _ => true) true _ _ _ pp)
  refine ⟨_, rfl, ⟨_, _, _, [], pp, [], hW', ?_, ?_, rfl, Below.frame hg.out _, fun h => by cases h⟩⟩
  · exact trodAll_cons_mk (shut_bool Tryz.underlying4 _) trodAll_mk0
  · rw [Tryz.params4]
    exact args_stay laid hg.1 _ _ _ _ kinds hpp

theorem named_ : (Tryz.prog).funcNamed Rows.fnPointsRow.func = some 4 := by kernel_rfl
theorem and_mk {a b : Bool} (h : a = true) (k : b = true) : (a && b) = true := by rw [h, k]; rfl
theorem keys_ : (Rows.fnPointsRow.plainKeys == (Tryz.prog).plainKeys) = true := facts.keys
theorem lift_ : (Rows.fnPointsRow.lifted == (Tryz.prog).liftsFinal) = true := facts.lift
theorem make_ : ((Tryz.prog).make == some Rows.fnPointsRow.make) = true := facts.make_
set_option maxHeartbeats 8000000 in
theorem joined_ : joinedFacts Tryz.prog 4 Tryz.f4 Rows.fnPointsSpec Rows.fnPointsRow = true := by
  unfold joinedFacts
  repeat' (with_reducible apply and_mk)
  all_goals (first | (with_reducible exact facts.laid) | (with_reducible exact facts.mapsR) | (with_reducible exact facts.heard) | (with_reducible exact facts.enter) | (with_reducible exact keys_) | (with_reducible exact lift_) | (with_reducible exact make_) | (as_aux_lemma => kernel_rfl))
theorem inst_ : (Tryz.f4).isInstance Tryz.prog Rows.fnPointsRow.origin Rows.fnPointsRow.targs := of_decide_eq_true (by kernel_rfl)
theorem wrap_ : (Tryz.f4).isWrapper Tryz.prog Rows.fnPointsRow.wrapper Rows.fnPointsRow.mainSum := by unfold Func.isWrapper; first | (rw [if_pos (by decide +kernel)]; kernel_rfl) | (rw [if_neg (by decide +kernel)]; exact ⟨rfl, rfl⟩)
theorem over : Rows.fnPointsRow.holds Tryz.pinned (OpenSpec.ofChange Rows.fnPointsSpec) :=
  OpenClaim.holds_of_wide 4 Tryz.f4 rfl rfl rfl rfl rfl rfl rfl ⟨rfl, rfl, rfl, rfl, rfl⟩ rfl rfl rfl rfl rfl named_ Tryz.func4 joined_ inst_ wrap_
    (fun os started H enc _ => lifted os started H enc)

/-- The given card. -/
theorem proved : Rows.FnPointsCardSaid :=
  Claim7.holds_tied_plain_at .later [] [.data, .data, .data, .sentinel, .sentinel] true (true, "3bbd470893cb82985fdf0b7f5c54ed556272a50d26bb371a7a85a591e47bc06b") true
    over (fun _ h => by cases h) (by kernel_rfl) (fun _ h => by cases h) fnPoints_row_tie rfl ⟨rfl, rfl⟩ (by kernel_rfl) rfl
    (fun f fn hf hfn => by
      obtain rfl : f = 4 := Option.some.inj ((show (Tryz.prog).funcNamed Rows.fnPointsRow.func = some 4 from named_).symm.trans hf) |>.symm
      obtain rfl : fn = Tryz.f4 := (Option.some.inj (Tryz.func4.symm.trans hfn)).symm
      exact ⟨by kernel_rfl, fun j t ht => by
        rw [Tryz.params4] at ht
        have hm : t ∈ [34] := by simpa using Array.mem_of_getElem? ht
        have hall : ([34].all fun u => !(Tryz.prog).wantsStandIn u) = true := by kernel_rfl
        exact (show (Tryz.prog).wantsStandIn t = false by simpa using List.all_eq_true.1 hall t hm)⟩)
    (by kernel_rfl)
#print axioms proved
end Go.Proofs.YtnbefpfijaimjaaGreatDoor.fnPoints
