/- Texts as lists of bytes. It speaks of no program. -/
import Derived.Test.YtnbefpfijaimjaaGreatDoorGBase
import Derived.Lib.ItoaNum
import Derived.Lib.IndexMore
import Derived.Laws.Concat
import Derived.Laws.Strings3
import Derived.Lib.Strings
namespace Go.Proofs.YtnbefpfijaimjaaGreatDoor
/-- The text of these bytes. -/
def sB (l : List UInt8) : ByteArray := ⟨l.toArray⟩
theorem sB_size (l : List UInt8) : (sB l).size = l.length := by
  show l.toArray.size = _
  simp
theorem sB_self (s : ByteArray) : sB s.data.toList = s := by
  obtain ⟨⟨l⟩⟩ := s
  rfl
theorem sB_data (l : List UInt8) : (sB l).data.toList = l := by
  show l.toArray.toList = l
  simp
theorem sB_get {l : List UInt8} {i : Nat} {c : UInt8} (h : l[i]? = some c) (hi : i < (sB l).size) : (sB l)[i]'hi = c := by
  obtain ⟨hl, rfl⟩ := List.getElem?_eq_some_iff.1 h
  rfl
theorem sB_inj {l m : List UInt8} : sB l = sB m ↔ l = m := by
  constructor
  · intro h
    have := congrArg (fun s : ByteArray => s.data.toList) h
    simpa [sB_data] using this
  · rintro rfl; rfl
theorem sB_append (l m : List UInt8) : sB l ++ sB m = sB (l ++ m) := by
  unfold sB
  rw [ByteArray.mk_append_mk]
theorem sB_extract (l : List UInt8) (a b : Nat) : (sB l).extract a b = sB ((l.take b).drop a) := by
  rw [← sB_self ((sB l).extract a b)]
  rw [sB_inj]
  rw [ByteArray.data_extract, Array.toList_extract]
  rw [sB_data, List.extract_eq_take_drop, List.drop_take]

theorem sB_toList (l : List UInt8) : (sB l).toList = l := by
  rw [Lib.toList_data, sB_data]
theorem add_run (P : Program) (l m : List UInt8) (w : World) (h : l.length + m.length ≤ 1048576) : (Op.stringOp .add (sB l) (sB m)).run P w = .ok (.string (sB (l ++ m))) w := by
  rw [run_string_add_sum w _ _ (by rw [sB_size, sB_size]; omega), sB_append]
end Go.Proofs.YtnbefpfijaimjaaGreatDoor
