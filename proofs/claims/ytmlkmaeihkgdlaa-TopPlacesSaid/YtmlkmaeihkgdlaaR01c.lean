/-
  gannetref01: digits, Hex, FromHex.
-/
import Derived.Test.YtmlkmaeihkgdlaaTac
import Derived.Test.YtmlkmaeihkgdlaaOdig
namespace Go.Proofs.Ytmlkmaeihkgdlaa
open Go.RowKit Pl

theorem digT_size : ((ByteArray.mk #[48, 49, 50, 51, 52, 53, 54, 55, 56, 57, 65, 66, 67, 68, 69, 70])).size = 16 := rfl
theorem digT_at : ∀ k, k < 16 → ((ByteArray.mk #[48, 49, 50, 51, 52, 53, 54, 55, 56, 57, 65, 66, 67, 68, 69, 70])).toList[k]? = some (hexC k) := by
  have : ((ByteArray.mk #[48, 49, 50, 51, 52, 53, 54, 55, 56, 57, 65, 66, 67, 68, 69, 70])).toList = [48, 49, 50, 51, 52, 53, 54, 55, 56, 57, 65, 66, 67, 68, 69, 70] := ByteArray.toList_mk _
  rw [this]
  decide
theorem digT_get : ∀ k, k < 16 → ∀ h : k < ((ByteArray.mk #[48, 49, 50, 51, 52, 53, 54, 55, 56, 57, 65, 66, 67, 68, 69, 70])).size, (((ByteArray.mk #[48, 49, 50, 51, 52, 53, 54, 55, 56, 57, 65, 66, 67, 68, 69, 70]))[k]'h) = hexC k := by decide
theorem digT_cut : ∀ k, k < 16 → ((ByteArray.mk #[48, 49, 50, 51, 52, 53, 54, 55, 56, 57, 65, 66, 67, 68, 69, 70])).extract k (k + 1) = ⟨#[hexC k]⟩ := by decide




end Go.Proofs.Ytmlkmaeihkgdlaa
