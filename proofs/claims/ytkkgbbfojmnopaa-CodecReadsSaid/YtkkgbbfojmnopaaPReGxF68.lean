import Derived.Test.YtkkgbbfojmnopaaPReI1
import Derived.Test.YtkkgbbfojmnopaaPReGx0
set_option linter.unusedVariables false
set_option linter.unusedSimpArgs false
section
namespace Go.Proofs.Ytkkgbbfojmnopaa.G
open Go.RowKit Go.Proofs.YtkkgbbfojmnopaaW.PrintWords Go.Proofs.YtkkgbbfojmnopaaW.PrintLast Go.Proofs.YtkkgbbfojmnopaaW.PrintMore
attribute [local go_sem] q26q q27q q34q q35q q22q q23q q28q q29q
def fQ22.f (a0_0 : Int) (a0_1 : Int) (l0_2 : List (S50)) (l0_3 : List (S42)) (l0_4 : List (S52)) (a1_0 : Int) (a1_1 : Int) (a1_2 : Int) (a2 : Int) : Option (Bool) := some (insK (grpOf a1_0) a0_1 l0_2.length l0_4.length l0_3 a2 a1_1 a1_2)
theorem fQ22.calls (a0_0 : Int) (a0_1 : Int) (A0_2 : Option Addr) (c0_2 : Nat) (l0_2 : List (S50)) (A0_3 : Option Addr) (c0_3 : Nat) (l0_3 : List (S42)) (A0_4 : Option Addr) (c0_4 : Nat) (l0_4 : List (S52)) (a1_0 : Int) (a1_1 : Int) (a1_2 : Int) (a2 : Int) (r : Bool) (w : World) (hr0_2 : Kd.C k50 w A0_2 l0_2.length l0_2) (hc0_2 : l0_2.length ≤ c0_2) (hr0_3 : Kd.C k42 w A0_3 l0_3.length l0_3) (hc0_3 : l0_3.length ≤ c0_3) (hr0_4 : Kd.C k52 w A0_4 l0_4.length l0_4) (hc0_4 : l0_4.length ≤ c0_4) (h : fQ22.f a0_0 a0_1 l0_2 l0_3 l0_4 a1_0 a1_1 a1_2 a2 = some r) :
  Calls Try.prog 68 #[.agg #[.int .i64 a0_0, .int .i64 a0_1, .slice A0_2 l0_2.length c0_2, .slice A0_3 l0_3.length c0_3, .slice A0_4 l0_4.length c0_4], .agg #[.int .i64 a1_0, .int .i64 a1_1, .int .i64 a1_2], .int .i64 a2] w fun e w' => e = .returned (.bool r) ∧ Below w.heap.size w w' := by
 obtain rfl := Option.some.inj h
 clear h
 rcases (by omega : a1_0 = 0 ∨ a1_0 = 1 ∨ a1_0 = 2 ∨ a1_0 = 3 ∨ a1_0 = 4 ∨ a1_0 = 5 ∨ a1_0 = 6 ∨ a1_0 = 7 ∨ a1_0 = 8 ∨ a1_0 = 9 ∨ a1_0 = 10 ∨ a1_0 = 11 ∨ a1_0 = 12 ∨ a1_0 = 13 ∨ a1_0 = 14 ∨ a1_0 = 15 ∨ a1_0 = 16 ∨ a1_0 = 17 ∨ a1_0 = 18 ∨ a1_0 = 19 ∨ a1_0 = 20 ∨ a1_0 = 21 ∨ a1_0 = 22 ∨ a1_0 = 23 ∨ a1_0 = 24 ∨ a1_0 = 25 ∨ a1_0 = 26 ∨ a1_0 = 27 ∨ a1_0 = 28 ∨ a1_0 = 29 ∨ a1_0 = 30 ∨ a1_0 = 31 ∨ a1_0 = 32 ∨ a1_0 = 33 ∨ a1_0 = 34 ∨ a1_0 = 35 ∨ a1_0 = 36 ∨ (a1_0 < 0 ∨ 36 < a1_0)) with rfl | rfl | rfl | rfl | rfl | rfl | rfl | rfl | rfl | rfl | rfl | rfl | rfl | rfl | rfl | rfl | rfl | rfl | rfl | rfl | rfl | rfl | rfl | rfl | rfl | rfl | rfl | rfl | rfl | rfl | rfl | rfl | rfl | rfl | rfl | rfl | rfl | hd
 ·exact insG0 0 (by decide) a0_0 a0_1 A0_2 c0_2 l0_2 A0_3 c0_3 l0_3 A0_4 c0_4 l0_4 a1_1 a1_2 a2 w hr0_3
 ·exact ins1 a0_0 a0_1 A0_2 c0_2 l0_2 A0_3 c0_3 l0_3 A0_4 c0_4 l0_4 a1_1 a1_2 a2 w hr0_3
 ·exact ins2 a0_0 a0_1 A0_2 c0_2 l0_2 A0_3 c0_3 l0_3 A0_4 c0_4 l0_4 a1_1 a1_2 a2 w hr0_3
 ·exact insG3 3 (by decide) a0_0 a0_1 A0_2 c0_2 l0_2 A0_3 c0_3 l0_3 A0_4 c0_4 l0_4 a1_1 a1_2 a2 w hr0_3
 ·exact insG3 4 (by decide) a0_0 a0_1 A0_2 c0_2 l0_2 A0_3 c0_3 l0_3 A0_4 c0_4 l0_4 a1_1 a1_2 a2 w hr0_3
 ·exact insG0 5 (by decide) a0_0 a0_1 A0_2 c0_2 l0_2 A0_3 c0_3 l0_3 A0_4 c0_4 l0_4 a1_1 a1_2 a2 w hr0_3
 ·exact insG6 6 (by decide) a0_0 a0_1 A0_2 c0_2 l0_2 A0_3 c0_3 l0_3 A0_4 c0_4 l0_4 a1_1 a1_2 a2 w hr0_3
 ·exact insG6 7 (by decide) a0_0 a0_1 A0_2 c0_2 l0_2 A0_3 c0_3 l0_3 A0_4 c0_4 l0_4 a1_1 a1_2 a2 w hr0_3
 ·exact insG0 8 (by decide) a0_0 a0_1 A0_2 c0_2 l0_2 A0_3 c0_3 l0_3 A0_4 c0_4 l0_4 a1_1 a1_2 a2 w hr0_3
 ·exact insG3 9 (by decide) a0_0 a0_1 A0_2 c0_2 l0_2 A0_3 c0_3 l0_3 A0_4 c0_4 l0_4 a1_1 a1_2 a2 w hr0_3
 ·exact insG3 10 (by decide) a0_0 a0_1 A0_2 c0_2 l0_2 A0_3 c0_3 l0_3 A0_4 c0_4 l0_4 a1_1 a1_2 a2 w hr0_3
 ·exact insG11 11 (by decide) a0_0 a0_1 A0_2 c0_2 l0_2 A0_3 c0_3 l0_3 A0_4 c0_4 l0_4 a1_1 a1_2 a2 w hr0_3
 ·exact insG11 12 (by decide) a0_0 a0_1 A0_2 c0_2 l0_2 A0_3 c0_3 l0_3 A0_4 c0_4 l0_4 a1_1 a1_2 a2 w hr0_3
 ·exact insG0 13 (by decide) a0_0 a0_1 A0_2 c0_2 l0_2 A0_3 c0_3 l0_3 A0_4 c0_4 l0_4 a1_1 a1_2 a2 w hr0_3
 ·exact insG14 14 (by decide) a0_0 a0_1 A0_2 c0_2 l0_2 A0_3 c0_3 l0_3 A0_4 c0_4 l0_4 a1_1 a1_2 a2 w hr0_3
 ·exact insG15 15 (by decide) a0_0 a0_1 A0_2 c0_2 l0_2 A0_3 c0_3 l0_3 A0_4 c0_4 l0_4 a1_1 a1_2 a2 w hr0_3
 ·exact insG15 16 (by decide) a0_0 a0_1 A0_2 c0_2 l0_2 A0_3 c0_3 l0_3 A0_4 c0_4 l0_4 a1_1 a1_2 a2 w hr0_3
 ·exact ins17 a0_0 a0_1 A0_2 c0_2 l0_2 A0_3 c0_3 l0_3 A0_4 c0_4 l0_4 a1_1 a1_2 a2 w hr0_3
 ·exact ins18 a0_0 a0_1 A0_2 c0_2 l0_2 A0_3 c0_3 l0_3 A0_4 c0_4 l0_4 a1_1 a1_2 a2 w hr0_3
 ·exact insG0 19 (by decide) a0_0 a0_1 A0_2 c0_2 l0_2 A0_3 c0_3 l0_3 A0_4 c0_4 l0_4 a1_1 a1_2 a2 w hr0_3
 ·exact ins20 a0_0 a0_1 A0_2 c0_2 l0_2 A0_3 c0_3 l0_3 A0_4 c0_4 l0_4 a1_1 a1_2 a2 w hr0_3
 ·exact insG21 21 (by decide) a0_0 a0_1 A0_2 c0_2 l0_2 A0_3 c0_3 l0_3 A0_4 c0_4 l0_4 a1_1 a1_2 a2 w hr0_3
 ·exact insG21 22 (by decide) a0_0 a0_1 A0_2 c0_2 l0_2 A0_3 c0_3 l0_3 A0_4 c0_4 l0_4 a1_1 a1_2 a2 w hr0_3
 ·exact insG21 23 (by decide) a0_0 a0_1 A0_2 c0_2 l0_2 A0_3 c0_3 l0_3 A0_4 c0_4 l0_4 a1_1 a1_2 a2 w hr0_3
 ·exact insG21 24 (by decide) a0_0 a0_1 A0_2 c0_2 l0_2 A0_3 c0_3 l0_3 A0_4 c0_4 l0_4 a1_1 a1_2 a2 w hr0_3
 ·exact ins25 a0_0 a0_1 A0_2 c0_2 l0_2 A0_3 c0_3 l0_3 A0_4 c0_4 l0_4 a1_1 a1_2 a2 w hr0_3
 ·exact insG14 26 (by decide) a0_0 a0_1 A0_2 c0_2 l0_2 A0_3 c0_3 l0_3 A0_4 c0_4 l0_4 a1_1 a1_2 a2 w hr0_3
 ·exact insG14 27 (by decide) a0_0 a0_1 A0_2 c0_2 l0_2 A0_3 c0_3 l0_3 A0_4 c0_4 l0_4 a1_1 a1_2 a2 w hr0_3
 ·exact insG14 28 (by decide) a0_0 a0_1 A0_2 c0_2 l0_2 A0_3 c0_3 l0_3 A0_4 c0_4 l0_4 a1_1 a1_2 a2 w hr0_3
 ·exact insG14 29 (by decide) a0_0 a0_1 A0_2 c0_2 l0_2 A0_3 c0_3 l0_3 A0_4 c0_4 l0_4 a1_1 a1_2 a2 w hr0_3
 ·exact insG0 30 (by decide) a0_0 a0_1 A0_2 c0_2 l0_2 A0_3 c0_3 l0_3 A0_4 c0_4 l0_4 a1_1 a1_2 a2 w hr0_3
 ·exact insG0 31 (by decide) a0_0 a0_1 A0_2 c0_2 l0_2 A0_3 c0_3 l0_3 A0_4 c0_4 l0_4 a1_1 a1_2 a2 w hr0_3
 ·exact insG0 32 (by decide) a0_0 a0_1 A0_2 c0_2 l0_2 A0_3 c0_3 l0_3 A0_4 c0_4 l0_4 a1_1 a1_2 a2 w hr0_3
 ·exact insG33 33 (by decide) a0_0 a0_1 A0_2 c0_2 l0_2 A0_3 c0_3 l0_3 A0_4 c0_4 l0_4 a1_1 a1_2 a2 w hr0_3
 ·exact insG33 34 (by decide) a0_0 a0_1 A0_2 c0_2 l0_2 A0_3 c0_3 l0_3 A0_4 c0_4 l0_4 a1_1 a1_2 a2 w hr0_3
 ·exact insG21 35 (by decide) a0_0 a0_1 A0_2 c0_2 l0_2 A0_3 c0_3 l0_3 A0_4 c0_4 l0_4 a1_1 a1_2 a2 w hr0_3
 ·exact ins36 a0_0 a0_1 A0_2 c0_2 l0_2 A0_3 c0_3 l0_3 A0_4 c0_4 l0_4 a1_1 a1_2 a2 w hr0_3
 ·have hg : grpOf a1_0 = 99 := by
   unfold grpOf
   repeat rw [if_neg (by omega)]
  rw [hg]
  exact insD a0_0 a0_1 A0_2 c0_2 l0_2 A0_3 c0_3 l0_3 A0_4 c0_4 l0_4 a1_0 hg a1_1 a1_2 a2 w hr0_3
end Go.Proofs.Ytkkgbbfojmnopaa.G
end
