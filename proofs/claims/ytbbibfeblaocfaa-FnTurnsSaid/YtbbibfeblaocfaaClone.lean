/- slices.Clone of a list of integers. -/
import Derived.Test.YtbbibfeblaocfaaGVec
import Derived.Laws.AppendOwn
namespace Go.Proofs.Ytbbibfeblaocfaa
open Go.RowKit
theorem infoInt : (Try.prog.info? 3).map (fun i => (i.zero, i.size, i.bytes)) = some (some (.int .i64 0), 1, 8) := by kernel_rfl
set_option maxHeartbeats 1600000 in
theorem clone_int (b off c : Nat) (l : List Int) (w : World) (hv : tInts.at w [.slice (some ⟨b, off, none⟩) l.length c] l) (hl : l.length ≤ 1048576) :
    Calls Try.prog 60 #[.slice (some ⟨b, off, none⟩) l.length c] w fun e w' => ∃ v', e = .returned v' ∧ More w w' ∧ tInts.fresh w.heap.size w' [v'] l := by
  have A : ∀ j x, l[j]? = some x → In64 x ∧ w.cell? ⟨b, off + j, none⟩ = some (.int .i64 x) := by
    intro j x hj
    obtain ⟨b', off', x', e, -, hx, ho, hc⟩ := int_el hv (List.getElem?_eq_some_iff.1 hj).1
    cases e
    rw [hj] at hx
    cases hx
    exact ⟨ho, hc⟩
  have A' := Lib.hid A
  have HV := Lib.hid hv; clear hv A
  have HL := Lib.hid hl; clear hl
  obtain ⟨i0, hi, hz0, hz1, hz2⟩ := info_parts infoInt
  have q22 : ∀ (w : World) (a : Option Addr) (n c n' c' : Nat), (binOp .eql 26 (.slice a n c) (.slice none n' c')).run Try.prog w = .ok (.bool a.isNone) w := fun w a n c n' c' => Lib.run_eql_slice_nil w _ _ a n c n' c' Try.underlying26
  go_enter Try.func60, Try.ntmps60
  go_wp2_with (at_builtin; (refine wpList_append_own _ rfl _ _ 26 rfl w.heap.size 3 i0 (.int .i64 0) 1 8 Try.underlying26 hi hz0 hz1 hz2 rfl (by decide) _ 0 [] rfl (World.ownsRow_lit (size := 1) w #[] 0 (Nat.le_refl _) (by simp) (by simp)) ⟨b, off, none⟩ l.length c (l.map (Value.int .i64)) rfl ?qc1 ?qc2 ?qc3 ?qc4 ?qc5 ?qc6 ?_))
  case qc1 => simp
  case qc2 =>
    intro j u hj
    rw [List.getElem?_map] at hj
    obtain ⟨x, hx, rfl⟩ := Option.map_eq_some_iff.1 hj
    rw [Addr.add_lit]
    exact Lib.cell?_alloc_some _ (A'.out j x hx).2
  case qc3 => intro u hu; obtain ⟨x, _, rfl⟩ := List.mem_map.1 hu; rfl
  case qc4 => have := HL.out; unfold maxLen; omega
  case qc5 => have := HL.out; omega
  case qc6 => simp
  intro v' w1 hown hgrow hnil
  go_wp2_with fail
  go_ret
  refine ⟨v', rfl, ?_, ?_⟩
  · exact ((Below.refl _ w).alloc (Nat.le_refl _) _).grown hgrow (by simp) (by intro k hk; simp [Value.ownBlock] at hk; omega)
  · have e : l.map (Value.int .i64) = l.flatMap fInt.enc := by rw [← List.flatMap_singleton' (l.map _), List.flatMap_map]; rfl
    exact fresh_of_row fInt (by rw [← e]; exact (by simpa using hown : w1.ownsRow w.heap.size 3 1 v' l.length (l.map (Value.int .i64)))) (fun x hx => by obtain ⟨j, hj, rfl⟩ := List.getElem_of_mem hx; exact (A'.out j _ (List.getElem?_eq_getElem hj)).1)
theorem clone_int' (b off n c : Nat) (l : List Int) (w : World) (hn : l.length = n) (hv : tInts.at w [.slice (some ⟨b, off, none⟩) n c] l) (hl : l.length ≤ 1048576) :
    Calls Try.prog 60 #[.slice (some ⟨b, off, none⟩) n c] w fun e w' => ∃ v', e = .returned v' ∧ More w w' ∧ tInts.fresh w.heap.size w' [v'] l := by
  subst hn
  exact clone_int b off c l w hv hl
end Go.Proofs.Ytbbibfeblaocfaa
