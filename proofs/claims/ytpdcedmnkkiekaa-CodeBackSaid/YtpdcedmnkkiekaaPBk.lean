import Derived.Test.YtpdcedmnkkiekaaPNm
import Derived.Test.YtpdcedmnkkiekaaGxF8
namespace Go.Proofs.Ytpdcedmnkkiekaa.Z
open Go.RowKit Go.Proofs.Ytpdcedmnkkiekaa.G Go.Proofs.YtpdcedmnkkiekaaW.PrintWords Go.Proofs.YtpdcedmnkkiekaaW.PrintLast Go.Proofs.YtpdcedmnkkiekaaW.PrintMore
set_option linter.unusedVariables false
set_option linter.unusedSimpArgs false
theorem codeBack : tallowlaw20_CodeBack.Pure := by
  intro a0 a1 _ _
  refine ⟨100, ?_⟩
  have e0 : (⟨#[]⟩ : ByteArray).toList = [] := by decide +kernel
  have hj : tallowlaw20_CodeBack.j0 100 a0 false = some true := by
    rw [tallowlaw20_CodeBack.j0, if_neg (by decide)]
    by_cases h0 : a0 ≥ 0
    · rw [if_pos h0]
      show (some (nameS a0)).bind _ = _
      rw [Option.bind_some]
      by_cases h36 : a0 ≤ 36
      · obtain ⟨n, rfl⟩ := Int.eq_ofNat_of_zero_le h0
        have hb := names_back ⟨n, by omega⟩
        rw [decide_eq_true h36, bne_iff_ne.mpr hb.2, if_pos (by decide), if_pos h36]
        show (some (nameS n)).bind _ = _
        rw [Option.bind_some]
        show (some (opOf (nameS n))).bind _ = _
        rw [Option.bind_some, hb.1]
        simp
      · rw [nameS_out a0 (by omega), e0, decide_eq_false h36, if_pos (by decide), if_neg h36]
    · rw [if_neg h0]
      show (some (nameS a0)).bind _ = _
      rw [Option.bind_some, nameS_out a0 (by omega), e0, if_pos (by decide)]
  unfold tallowlaw20_CodeBack.f
  rw [works_ok, Option.bind_some, if_pos rfl]
  show (some (opOf a1)).bind _ = _
  rw [Option.bind_some]
  rcases opOf_spec a1 with h | ⟨h1, h2, h3⟩
  · rw [h, if_neg (by decide)]
    exact hj
  · rw [if_pos h1]
    show (some (nameS (opOf a1))).bind _ = _
    rw [Option.bind_some, if_pos h3, decide_eq_false (by omega)]
    exact hj
end Go.Proofs.Ytpdcedmnkkiekaa.Z
