import Derived.Test.YtlbaejihlcfpeaaGreatDoorPStGx0
set_option linter.unusedVariables false
set_option linter.unusedSimpArgs false
section
namespace Go.Proofs.YtlbaejihlcfpeaaGreatDoor.G
open Go.RowKit Go.Proofs.YtlbaejihlcfpeaaGreatDoorW.PrintWords Go.Proofs.YtlbaejihlcfpeaaGreatDoorW.PrintLast Go.Proofs.YtlbaejihlcfpeaaGreatDoorW.PrintMore
attribute [local go_sem] max2_int min2_int max_two min_two max_three min_three max_four min_four
set_option linter.unusedVariables false
set_option linter.unusedSimpArgs false
def quote_Unquote.f (a0 : ByteArray) : Option (ByteArray × Int) := if a0.size ≤ 9223372036854775807 then H.unquote.f (a0.size + 1) a0 else none
theorem quote_Unquote.calls (a0 : ByteArray) (r1 : ByteArray) (r2 : Int) (w : World) (h : quote_Unquote.f a0 = some (r1, r2)) :
    Calls Tryz.prog 53 #[.string a0] w fun e w' => e = .returned (.tuple #[.string r1, .int .i64 r2]) ∧ Below w.heap.size w w' := by
  unfold quote_Unquote.f at h
  by_cases hs : a0.size ≤ 9223372036854775807
  · rw [if_pos hs] at h
    exact H.unquote.calls _ a0 hs r1 r2 w h
  · rw [if_neg hs] at h
    cases h
end Go.Proofs.YtlbaejihlcfpeaaGreatDoor.G
end
