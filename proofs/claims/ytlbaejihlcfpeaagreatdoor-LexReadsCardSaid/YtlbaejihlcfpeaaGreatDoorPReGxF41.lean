import Derived.Test.YtlbaejihlcfpeaaGreatDoorPReGx0
set_option linter.unusedVariables false
set_option linter.unusedSimpArgs false
section
namespace Go.Proofs.YtlbaejihlcfpeaaGreatDoor.G
open Go.RowKit Go.Proofs.YtlbaejihlcfpeaaGreatDoorW.PrintWords Go.Proofs.YtlbaejihlcfpeaaGreatDoorW.PrintLast Go.Proofs.YtlbaejihlcfpeaaGreatDoorW.PrintMore
attribute [local go_sem] max2_int min2_int max_two min_two max_three min_three max_four min_four
set_option linter.unusedVariables false
set_option linter.unusedSimpArgs false
def tallowref04_Reserved.f (a0 : ByteArray) : Option Bool := some (resF a0.data.toList)
theorem tallowref04_Reserved.calls (a0 : ByteArray) (r : Bool) (w : World) (h : tallowref04_Reserved.f a0 = some r) :
    Calls Tryz.prog 41 #[.string a0] w fun e w' => e = .returned (.bool r) ∧ Below w.heap.size w w' := by
  obtain rfl := Option.some.inj h
  exact ref_res_any a0 w
end Go.Proofs.YtlbaejihlcfpeaaGreatDoor.G
end
