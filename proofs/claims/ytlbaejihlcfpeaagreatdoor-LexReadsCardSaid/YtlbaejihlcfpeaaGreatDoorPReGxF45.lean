import Derived.Test.YtlbaejihlcfpeaaGreatDoorPReGx0
set_option linter.unusedVariables false
set_option linter.unusedSimpArgs false
section
namespace Go.Proofs.YtlbaejihlcfpeaaGreatDoor.G
open Go.RowKit Go.Proofs.YtlbaejihlcfpeaaGreatDoorW.PrintWords Go.Proofs.YtlbaejihlcfpeaaGreatDoorW.PrintLast Go.Proofs.YtlbaejihlcfpeaaGreatDoorW.PrintMore
attribute [local go_sem] max2_int min2_int max_two min_two max_three min_three max_four min_four
set_option linter.unusedVariables false
set_option linter.unusedSimpArgs false
def tallowref04_sign.f (a0 : ByteArray) (a1 : Int) : Option Int := if 0 ≤ a1 ∧ a1 < (a0.size : Int) ∧ a0.size ≤ 140737488355328 then some (signF (a0.data.toList.drop a1.toNat)) else none
theorem tallowref04_sign.calls (a0 : ByteArray) (a1 r : Int) (w : World) (h : tallowref04_sign.f a0 a1 = some r) :
    Calls Tryz.prog 45 #[.string a0, .int .i64 a1] w fun e w' => e = .returned (.int .i64 r) ∧ Below w.heap.size w w' := by
  unfold tallowref04_sign.f at h
  by_cases hs : 0 ≤ a1 ∧ a1 < (a0.size : Int) ∧ a0.size ≤ 140737488355328
  · rw [if_pos hs] at h
    obtain rfl := Option.some.inj h
    have e : a1 = (a1.toNat : Int) := by omega
    rw [e]
    exact ref_sign_any a0 a1.toNat (by omega) hs.2.2 w
  · rw [if_neg hs] at h
    cases h
end Go.Proofs.YtlbaejihlcfpeaaGreatDoor.G
end
