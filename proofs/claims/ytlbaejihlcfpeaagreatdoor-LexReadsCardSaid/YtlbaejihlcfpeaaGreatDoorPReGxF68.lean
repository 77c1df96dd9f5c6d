import Derived.Test.YtlbaejihlcfpeaaGreatDoorPReGx0
import Derived.Test.YtlbaejihlcfpeaaGreatDoorPReGxF78
set_option linter.unusedVariables false
set_option linter.unusedSimpArgs false
section
namespace Go.Proofs.YtlbaejihlcfpeaaGreatDoor.G
open Go.RowKit Go.Proofs.YtlbaejihlcfpeaaGreatDoorW.PrintWords Go.Proofs.YtlbaejihlcfpeaaGreatDoorW.PrintLast Go.Proofs.YtlbaejihlcfpeaaGreatDoorW.PrintMore
attribute [local go_sem] max2_int min2_int max_two min_two max_three min_three max_four min_four
set_option linter.unusedVariables false
set_option linter.unusedSimpArgs false
def tallowref01_less0.f (k : Nat) (a0 : Int) : Option (Int) := tallowref01_sum.f k (Go.bits .xor .u64 IntKind.u64.max a0) 1
theorem tallowref01_less0.calls (k : Nat) (a0 : Int) (r : Int) (w : World) (h : tallowref01_less0.f k a0 = some r) :
    Calls Tryz.prog 68 #[.int .u64 a0] w fun e w' => e = .returned (.int .u64 r) ∧ Below w.heap.size w w' := by
  have H := Aside0.mk h
  clear h
  have hs : IntKind.u64.signed = false := rfl
  go_enter Tryz.func68, Tryz.ntmps68
  go_wp2_with fail
  refine (tallowref01_sum.calls k _ 1 r _ H.out).mono ?_
  rintro e w' ⟨rfl, ⟨nd, rfl⟩⟩
  go_wp2
  go_ret
  exact ⟨rfl, pw_below_drewN (Below.refl _ _) _⟩
end Go.Proofs.YtlbaejihlcfpeaaGreatDoor.G
end
