import Derived.Test.YtadhkfklkbdabaaRPOrD18
import Derived.Test.YtadhkfklkbdabaaRPOrGx0
set_option linter.unusedVariables false
set_option linter.unusedSimpArgs false
section
namespace Go.Proofs.YtadhkfklkbdabaaR.G
open Go.RowKit Go.Proofs.YtadhkfklkbdabaaRW.PrintWords Go.Proofs.YtadhkfklkbdabaaRW.PrintLast Go.Proofs.YtadhkfklkbdabaaRW.PrintMore
attribute [local go_sem] max2_int min2_int max_two min_two max_three min_three max_four min_four
set_option linter.unusedVariables false
set_option linter.unusedSimpArgs false
def dict_Len.f (l0 : List S24) : Option Int := if preB l0 true = true then some (lenS l0) else none
theorem dict_Len.calls (A0 : Option Addr) (c0 : Nat) (l0 : List (S24)) (r : Int) (w : World) (hr0 : Kd.C k24 w A0 l0.length l0) (hc0 : l0.length ≤ c0) (h : dict_Len.f l0 = some r) :
  Calls Try.prog 17 #[.slice A0 l0.length c0] w fun e w' => e = .returned (.int .i64 r) ∧ Below w.heap.size w w' := by
 obtain ⟨h1, h2, _, rfl⟩ := pre_of h
 exact len_any A0 c0 l0 w hr0 hc0 h1 h2
end Go.Proofs.YtadhkfklkbdabaaR.G
end
