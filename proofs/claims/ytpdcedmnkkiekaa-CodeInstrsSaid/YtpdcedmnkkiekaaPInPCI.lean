import Derived.Test.YtpdcedmnkkiekaaPInPC
import Derived.Test.YtpdcedmnkkiekaaPInGxF5
set_option linter.unusedVariables false
set_option linter.unusedSimpArgs false
section
namespace Go.Proofs.Ytpdcedmnkkiekaa.Z
open Go.RowKit Go.Proofs.Ytpdcedmnkkiekaa.G Go.Proofs.YtpdcedmnkkiekaaW.PrintWords Go.Proofs.YtpdcedmnkkiekaaW.PrintLast Go.Proofs.YtpdcedmnkkiekaaW.PrintMore
set_option linter.unusedVariables false
set_option linter.unusedSimpArgs false
theorem codeInstrs (a b c u0 u1 u2 u3 : Int) {p : Prop} (_hp : p) (h0 : (Lit.int .u8 u0).wf = true) (h1 : (Lit.int .u8 u1).wf = true) (h2 : (Lit.int .u8 u2).wf = true) (h3 : (Lit.int .u8 u3).wf = true) :
    ∃ k, G.tallowlaw20_CodeInstrs.f k a b c u0 u1 u2 u3 = some true := by
  have h : Ev (fun k => (code_Check.f k (G.progL a b c u0 u1 u2 u3)).bind fun x => (tallowref20_Check.f k (G.progL a b c u0 u1 u2 u3)).bind fun y => if x = y then some true else none) true := Ev.bind (c_check (G.progL a b c u0 u1 u2 u3)) (f := fun k x => (tallowref20_Check.f k (G.progL a b c u0 u1 u2 u3)).bind fun y => if x = y then some true else none) (by
    refine Ev.bind (f := fun k y => if checkS (G.progL a b c u0 u1 u2 u3) = y then some true else none) (r_check (G.progL a b c u0 u1 u2 u3)) ?_
    exact Ev.congr (f := fun _ => some true) (fun k => by rw [if_pos rfl]) (Ev.now _))
  obtain ⟨k, hk⟩ := h.rounds
  exact ⟨k, by unfold G.tallowlaw20_CodeInstrs.f; rw [if_pos ⟨G.u8_ok h0, G.u8_ok h1, G.u8_ok h2, G.u8_ok h3⟩]; exact hk⟩
end Go.Proofs.Ytpdcedmnkkiekaa.Z
end
