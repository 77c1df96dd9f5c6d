import Derived.Test.YtadhkfklkbdabaaRPPuGx0
set_option linter.unusedVariables false
set_option linter.unusedSimpArgs false
section
namespace Go.Proofs.YtadhkfklkbdabaaR.G
open Go.RowKit Go.Proofs.YtadhkfklkbdabaaRW.PrintWords Go.Proofs.YtadhkfklkbdabaaRW.PrintLast Go.Proofs.YtadhkfklkbdabaaRW.PrintMore
attribute [local go_sem] max2_int min2_int max_two min_two max_three min_three max_four min_four
set_option linter.unusedVariables false
set_option linter.unusedSimpArgs false
def val_May.f (a0_0 : Int) (a0_1 : Int) : Option (Bool) := some (H.mayB a0_0 a0_1)
theorem val_May.calls (a0_0 : Int) (a0_1 : Int) (r : Bool) (w : World) (h : val_May.f a0_0 a0_1 = some r) :
  Calls Try.prog 31 #[.agg #[.int .i64 a0_0, .int .i64 a0_1]] w fun e w' => e = .returned (.bool r) ∧ Below w.heap.size w w' :=
 H.may_any a0_0 a0_1 w r (Option.some.inj h)
end Go.Proofs.YtadhkfklkbdabaaR.G
end
