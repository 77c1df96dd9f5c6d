import Derived.Test.YtnklefbojabblaaPr
import Derived.Test.YtnklefbojabblaaGxF4
import Derived.Test.YtnklefbojabblaaPW
import Derived.Test.YtnklefbojabblaaPB
namespace Go.Proofs.Ytnklefbojabblaa.Z
open Go.RowKit Go.Proofs.Ytnklefbojabblaa.G Go.Proofs.Ytnklefbojabblaa.H Go.Proofs.YtnklefbojabblaaW.PrintWords Go.Proofs.YtnklefbojabblaaW.PrintLast Go.Proofs.YtnklefbojabblaaW.PrintMore
set_option linter.unusedVariables false
set_option linter.unusedSimpArgs false
theorem trim_le (q : ByteArray) : (⟨(Lib.trimSuffix (Lib.trimPrefix q.data.toList [34]) [34]).toArray⟩ : ByteArray).size ≤ q.size := by
  rw [sz_arr]
  have e : q.data.toList.length = q.size := Array.length_toList
  have h1 : (Lib.trimPrefix q.data.toList [34]).length ≤ q.data.toList.length := by
    unfold Lib.trimPrefix
    split
    · rw [List.length_drop]; omega
    · omega
  have h2 : ∀ l : List UInt8, (Lib.trimSuffix l [34]).length ≤ l.length := by
    intro l
    unfold Lib.trimSuffix
    split
    · exact List.length_take_le' _ _
    · omega
  have := h2 (Lib.trimPrefix q.data.toList [34])
  omega
theorem unquote_any (q : ByteArray) (hq : q.size < 70368744177664) : ∃ p, quote_Unquote.f q = some p := by
  rw [← runquote q hq (q.size + 6) (Nat.le_refl _)]
  cases h : tallowref03_Unquote.f (q.size + 6) q with
  | some p => exact ⟨p, rfl⟩
  | none =>
    rw [runquote q hq _ (Nat.le_refl _)] at h
    exfalso
    unfold quote_Unquote.f at h
    rw [if_pos (by omega)] at h
    unfold unquote.f at h
    split at h
    · rw [unq_eq _ _ _ ?_ ?_] at h
      · cases h
      · have := trim_le q
        omega
      · have := trim_le q
        simp
        omega
    · cases h
theorem quoteReads : tallowlaw03_QuoteReads.Pure := by
  intro a0 _
  refine ⟨100000, ?_⟩
  have hm := mn_le (a0.size : Int) 20000
  have hs := cut_size a0 20000
  unfold tallowlaw03_QuoteReads.f
  rw [if_pos (hm.2.2 (by omega) (by decide)), if_pos hm.1]
  have e : ((20000 : Nat) : Int) = 20000 := rfl
  rw [e] at hs
  generalize a0.extract 0 (mn (a0.size : Int) 20000).toNat = s at hs ⊢
  have h1 : (⟨#[34]⟩ : ByteArray).size = 1 := rfl
  obtain ⟨p, hp⟩ := unquote_any s (by omega)
  have hz : (((⟨#[34]⟩ : ByteArray) ++ s) ++ (⟨#[34]⟩ : ByteArray)).size = s.size + 2 := by rw [ByteArray.size_append, ByteArray.size_append, h1]; omega
  obtain ⟨q, hq⟩ := unquote_any (((⟨#[34]⟩ : ByteArray) ++ s) ++ (⟨#[34]⟩ : ByteArray)) (by omega)
  rw [runquote s (by omega) _ (by omega), runquote _ (by omega) _ (by omega), hp, hq]
  simp only [Option.bind_some]
  rw [if_pos (by omega), if_pos (by rw [ByteArray.size_append, h1]; omega), if_pos trivial, if_pos trivial, if_pos trivial, if_pos trivial, works_ok]
  rfl
end Go.Proofs.Ytnklefbojabblaa.Z
