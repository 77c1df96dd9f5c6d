import Derived.Test.YtadhkfklkbdabaaRPPuD18
import Derived.Test.YtadhkfklkbdabaaRPPuGx0
set_option linter.unusedVariables false
set_option linter.unusedSimpArgs false
section
namespace Go.Proofs.YtadhkfklkbdabaaR.G
open Go.RowKit Go.Proofs.YtadhkfklkbdabaaRW.PrintWords Go.Proofs.YtadhkfklkbdabaaRW.PrintLast Go.Proofs.YtadhkfklkbdabaaRW.PrintMore
attribute [local go_sem] max2_int min2_int max_two min_two max_three min_three max_four min_four
set_option linter.unusedVariables false
set_option linter.unusedSimpArgs false
def dict_Put.f (l0 : List S24) (a1_0 a1_1 a2_0 a2_1 : Int) : Option (List S24 × List S24 × Int) := if preB l0 true = true then some (putS l0 ⟨a1_0, a1_1⟩ ⟨a2_0, a2_1⟩) else none
theorem dict_Put.calls (A0 : Option Addr) (c0 : Nat) (l0 : List (S24)) (a1_0 : Int) (a1_1 : Int) (a2_0 : Int) (a2_1 : Int) (r1 : List (S24)) (r2 : List (S24)) (r3 : Int) (w : World) (hr0 : Kd.C k24 w A0 l0.length l0) (hc0 : l0.length ≤ c0) (h : dict_Put.f l0 a1_0 a1_1 a2_0 a2_1 = some (r1, r2, r3)) :
  Calls Try.prog 10 #[.slice A0 l0.length c0, .agg #[.int .i64 a1_0, .int .i64 a1_1], .agg #[.int .i64 a2_0, .int .i64 a2_1]] w fun e w' => ∃ v0_ v1_ : Value, e = .returned (.tuple #[v0_, v1_, .int .i64 r3]) ∧ Kd.R k24 24 w' w.heap.size (fun k_ => some k_ ≠ (v1_ : Value).ownBlock) v0_ r1 ∧ Kd.R k24 24 w' w.heap.size (fun k_ => some k_ ≠ (v0_ : Value).ownBlock) v1_ r2 ∧ Below w.heap.size w w' := by
 obtain ⟨h1, h2, _, h4⟩ := pre_of h
 have h := put10_any A0 c0 l0 ⟨a1_0, a1_1⟩ ⟨a2_0, a2_1⟩ w hr0 hc0 h1 h2
 unfold PutR at h
 rw [h4] at h
 exact h
end Go.Proofs.YtadhkfklkbdabaaR.G
end
