import Derived.Test.YtadhkfklkbdabaaRPPuD18
import Derived.Test.YtadhkfklkbdabaaRPPuGx0
set_option linter.unusedVariables false
set_option linter.unusedSimpArgs false
section
namespace Go.Proofs.YtadhkfklkbdabaaR.G
open Go.RowKit Go.Proofs.YtadhkfklkbdabaaRW.PrintWords Go.Proofs.YtadhkfklkbdabaaRW.PrintLast Go.Proofs.YtadhkfklkbdabaaRW.PrintMore
attribute [local go_sem] max2_int min2_int max_two min_two max_three min_three max_four min_four
set_option linter.unusedVariables false
set_option linter.unusedSimpArgs false
def dict_Get.f (l0 : List S24) (a1_0 a1_1 : Int) : Option (Int × Int) := if preB l0 (inV ⟨a1_0, a1_1⟩) = true then some ((getS l0 ⟨a1_0, a1_1⟩).f0, (getS l0 ⟨a1_0, a1_1⟩).f1) else none
theorem dict_Get.calls (A0 : Option Addr) (c0 : Nat) (l0 : List (S24)) (a1_0 : Int) (a1_1 : Int) (r1 : Int) (r2 : Int) (w : World) (hr0 : Kd.C k24 w A0 l0.length l0) (hc0 : l0.length ≤ c0) (h : dict_Get.f l0 a1_0 a1_1 = some (r1, r2)) :
  Calls Try.prog 22 #[.slice A0 l0.length c0, .agg #[.int .i64 a1_0, .int .i64 a1_1]] w fun e w' => e = .returned (.agg #[.int .i64 r1, .int .i64 r2]) ∧ Below w.heap.size w w' := by
 obtain ⟨h1, h2, h3, h4⟩ := pre_of h
 injection h4 with h4 h5
 subst h4
 subst h5
 exact get_any A0 c0 l0 ⟨a1_0, a1_1⟩ w hr0 hc0 h1 h2 h3
end Go.Proofs.YtadhkfklkbdabaaR.G
end
