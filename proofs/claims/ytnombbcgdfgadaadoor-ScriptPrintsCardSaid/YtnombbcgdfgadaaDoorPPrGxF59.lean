import Derived.Test.YtnombbcgdfgadaaDoorPPrGx0
import Derived.Test.YtnombbcgdfgadaaDoorPPrGxF70
set_option linter.unusedVariables false
set_option linter.unusedSimpArgs false
section
namespace Go.Proofs.YtnombbcgdfgadaaDoor.G
open Go.RowKit Go.Proofs.YtnombbcgdfgadaaDoorW.PrintWords Go.Proofs.YtnombbcgdfgadaaDoorW.PrintLast Go.Proofs.YtnombbcgdfgadaaDoorW.PrintMore
attribute [local go_sem] max2_int min2_int max_two min_two max_three min_three max_four min_four
set_option linter.unusedVariables false
set_option linter.unusedSimpArgs false
def tallowref01_less0.f (k : Nat) (a0 : Int) : Option (Int) := tallowref01_sum.f k (Go.bits .xor .u64 IntKind.u64.max a0) 1
theorem tallowref01_less0.calls (k : Nat) (a0 : Int) (r : Int) (w : World) (h : tallowref01_less0.f k a0 = some r) :
    Calls Tryd.prog 59 #[.int .u64 a0] w fun e w' => e = .returned (.int .u64 r) ∧ Below w.heap.size w w' := by
  have H := Aside0.mk h
  clear h
  have hs : IntKind.u64.signed = false := rfl
  go_enter Tryd.func59, Tryd.ntmps59
  go_wp2_with fail
  refine (tallowref01_sum.calls k _ 1 r _ H.out).mono ?_
  rintro e w' ⟨rfl, ⟨nd, rfl⟩⟩
  go_wp2
  go_ret
  exact ⟨rfl, pw_below_drewN (Below.refl _ _) _⟩
end Go.Proofs.YtnombbcgdfgadaaDoor.G
end
