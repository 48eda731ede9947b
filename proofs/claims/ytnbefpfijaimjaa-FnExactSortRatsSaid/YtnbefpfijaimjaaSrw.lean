/- SortRats: in the form that the law asks; the size of what is returned. -/
import Derived.Test.YtnbefpfijaimjaaSrr
namespace Go.Proofs.Ytnbefpfijaimjaa
open Go.RowKit
theorem wsum_append' {α : Type} (f : α → Nat) (l m : List α) : wsum f (l ++ m) = wsum f l + wsum f m := by
  unfold wsum
  rw [List.map_append, List.sum_append]
theorem sPut_w (l : List QR) (r : QR) : wsum wRat (sPut l r) ≤ wsum wRat l + wRat r := by
  unfold sPut
  split
  · omega
  · rw [wsum_append', wsum_append']
    have h : wsum wRat l = wsum wRat (l.take (sAt l r)) + wsum wRat (l.drop (sAt l r)) := by rw [← wsum_append', List.take_append_drop]
    have : wsum wRat [r] = wRat r := by simp [wsum]
    omega
theorem fold_w : ∀ (l acc : List QR), wsum wRat (l.foldl sPut acc) ≤ wsum wRat acc + wsum wRat l
  | [], acc => by simp [wsum]
  | a :: l, acc => by
    have h1 := fold_w l (sPut acc a)
    have h2 := sPut_w acc a
    have h3 : wsum wRat (a :: l) = wRat a + wsum wRat l := by simp [wsum]
    rw [List.foldl_cons]
    omega
theorem sRats_w (l : List QR) : wRatS (sRats l) ≤ wRatS l := by
  unfold wRatS
  have h1 := sRats_len l
  have h2 : wsum wRat (sRats l) ≤ wsum wRat l := by
    unfold sRats
    split
    · have := fold_w l []
      simpa [wsum] using this
    · simp [wsum]
  omega
theorem impl_SortRatsL (v : Value) (l : List QR) (w : World) (hv : tRatS.at w [v] l) (hw : wRatS l ≤ 1048576) :
    Calls Try.prog 7 #[v] w fun e w' => ∃ v', e = .returned v' ∧ More w w' ∧ tRatS.fresh w.heap.size w' [v'] (sRats l) :=
  (impl_SortRats v l w hv (rats_small hw)).mono fun _ _ ⟨v', h1, h2, h3⟩ => ⟨v', h1, h2, h3.fresh⟩
theorem spec_SortRatsL (v : Value) (l : List QR) (w : World) (hv : tRatS.at w [v] l) (hw : wRatS l ≤ 1048576) :
    Calls Try.prog 5 #[v] w fun e w' => ∃ v', e = .returned v' ∧ More w w' ∧ tRatS.at w' [v'] (sRats l) := spec_SortRats v l w hv (rats_small hw)
end Go.Proofs.Ytnbefpfijaimjaa
