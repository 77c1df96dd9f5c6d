import Derived.Test.YtnklefbojabblaaPWr
import Derived.Test.YtnklefbojabblaaGxF11
namespace Go.Proofs.Ytnklefbojabblaa.Z
open Go.RowKit Go.Proofs.Ytnklefbojabblaa.G Go.Proofs.Ytnklefbojabblaa.H Go.Proofs.YtnklefbojabblaaW.PrintWords Go.Proofs.YtnklefbojabblaaW.PrintLast Go.Proofs.YtnklefbojabblaaW.PrintMore
set_option linter.unusedVariables false
set_option linter.unusedSimpArgs false
theorem qtext_len (s : ByteArray) : (qtext s).length ≤ 4 * s.size + 2 ∧ 2 ≤ (qtext s).length := by
  unfold qtext
  have := qflat_length s.data.toList
  have e : s.data.toList.length = s.size := Array.length_toList
  simp only [List.length_append, List.length_cons, List.length_nil]
  omega
theorem back (s : ByteArray) (h : s.size ≤ 1000000) : quote_Unquote.f ⟨(qtext s).toArray⟩ = some (fin (bnums s.data.toList)) := by
  have hl := qtext_len s
  unfold quote_Unquote.f
  rw [sz_arr, if_pos (by omega)]
  exact unquote_q _ s (by omega) (by omega)
theorem back_ok (s : ByteArray) (h : s.size ≤ 4096) : quote_Unquote.f ⟨(qtext s).toArray⟩ = some (s, 0) := by
  rw [back s (by omega), fin_nums _ (by rw [Array.length_toList]; exact h)]
theorem back_long (s : ByteArray) (h : ¬ s.size ≤ 4096) (h2 : s.size ≤ 1000000) : quote_Unquote.f ⟨(qtext s).toArray⟩ = some (⟨#[]⟩, 3) := by
  rw [back s h2, fin_long _ (by rw [Array.length_toList]; exact h)]
end Go.Proofs.Ytnklefbojabblaa.Z
