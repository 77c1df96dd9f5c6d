import Derived.Test.YtpdcedmnkkiekaaPInGx0
import Derived.Test.YtpdcedmnkkiekaaPInI1
set_option linter.unusedVariables false
set_option linter.unusedSimpArgs false
section
namespace Go.Proofs.Ytpdcedmnkkiekaa.G
open Go.RowKit Go.Proofs.YtpdcedmnkkiekaaW.PrintWords Go.Proofs.YtpdcedmnkkiekaaW.PrintLast Go.Proofs.YtpdcedmnkkiekaaW.PrintMore
attribute [local go_sem] max2_int min2_int max_two min_two max_three min_three max_four min_four
set_option linter.unusedVariables false
set_option linter.unusedSimpArgs false
def tallowref20_instr.f (a0_0 : Int) (a0_1 : Int) (l0_2 : List (S48)) (l0_3 : List (S46)) (l0_4 : List (S33)) (a1_0 : Int) (a1_1 : Int) (a1_2 : Int) (a2 : Int) : Option (Bool) := some (insK (grpOf a1_0) a0_1 l0_2.length l0_4.length l0_3 a2 a1_1 a1_2)
theorem tallowref20_instr.calls (a0_0 : Int) (a0_1 : Int) (A0_2 : Option Addr) (c0_2 : Nat) (l0_2 : List (S48)) (A0_3 : Option Addr) (c0_3 : Nat) (l0_3 : List (S46)) (A0_4 : Option Addr) (c0_4 : Nat) (l0_4 : List (S33)) (a1_0 : Int) (a1_1 : Int) (a1_2 : Int) (a2 : Int) (r : Bool) (w : World) (hr0_2 : Kd.C k48 w A0_2 l0_2.length l0_2) (hc0_2 : l0_2.length ≤ c0_2) (hr0_3 : Kd.C k46 w A0_3 l0_3.length l0_3) (hc0_3 : l0_3.length ≤ c0_3) (hr0_4 : Kd.C k33 w A0_4 l0_4.length l0_4) (hc0_4 : l0_4.length ≤ c0_4) (h : tallowref20_instr.f a0_0 a0_1 l0_2 l0_3 l0_4 a1_0 a1_1 a1_2 a2 = some r) :
    Calls Try.prog 45 #[.agg #[.int .i64 a0_0, .int .i64 a0_1, .slice A0_2 l0_2.length c0_2, .slice A0_3 l0_3.length c0_3, .slice A0_4 l0_4.length c0_4], .agg #[.int .i64 a1_0, .int .i64 a1_1, .int .i64 a1_2], .int .i64 a2] w fun e w' => e = .returned (.bool r) ∧ Below w.heap.size w w' := by
  obtain rfl := Option.some.inj h
  clear h
  rcases (by omega : a1_0 = 0 ∨ a1_0 = 1 ∨ a1_0 = 2 ∨ a1_0 = 3 ∨ a1_0 = 4 ∨ a1_0 = 5 ∨ a1_0 = 6 ∨ a1_0 = 7 ∨ a1_0 = 8 ∨ a1_0 = 9 ∨ a1_0 = 10 ∨ a1_0 = 11 ∨ a1_0 = 12 ∨ a1_0 = 13 ∨ a1_0 = 14 ∨ a1_0 = 15 ∨ a1_0 = 16 ∨ a1_0 = 17 ∨ a1_0 = 18 ∨ a1_0 = 19 ∨ a1_0 = 20 ∨ a1_0 = 21 ∨ a1_0 = 22 ∨ a1_0 = 23 ∨ a1_0 = 24 ∨ a1_0 = 25 ∨ a1_0 = 26 ∨ a1_0 = 27 ∨ a1_0 = 28 ∨ a1_0 = 29 ∨ a1_0 = 30 ∨ a1_0 = 31 ∨ a1_0 = 32 ∨ a1_0 = 33 ∨ a1_0 = 34 ∨ a1_0 = 35 ∨ a1_0 = 36 ∨ (a1_0 < 0 ∨ 36 < a1_0)) with rfl | rfl | rfl | rfl | rfl | rfl | rfl | rfl | rfl | rfl | rfl | rfl | rfl | rfl | rfl | rfl | rfl | rfl | rfl | rfl | rfl | rfl | rfl | rfl | rfl | rfl | rfl | rfl | rfl | rfl | rfl | rfl | rfl | rfl | rfl | rfl | rfl | hd
  · exact ins0 a0_0 a0_1 A0_2 c0_2 l0_2 A0_3 c0_3 l0_3 A0_4 c0_4 l0_4 a1_1 a1_2 a2 w hr0_3
  · exact ins1 a0_0 a0_1 A0_2 c0_2 l0_2 A0_3 c0_3 l0_3 A0_4 c0_4 l0_4 a1_1 a1_2 a2 w hr0_3
  · exact ins2 a0_0 a0_1 A0_2 c0_2 l0_2 A0_3 c0_3 l0_3 A0_4 c0_4 l0_4 a1_1 a1_2 a2 w hr0_3
  · exact ins3 a0_0 a0_1 A0_2 c0_2 l0_2 A0_3 c0_3 l0_3 A0_4 c0_4 l0_4 a1_1 a1_2 a2 w hr0_3
  · exact ins4 a0_0 a0_1 A0_2 c0_2 l0_2 A0_3 c0_3 l0_3 A0_4 c0_4 l0_4 a1_1 a1_2 a2 w hr0_3
  · exact ins5 a0_0 a0_1 A0_2 c0_2 l0_2 A0_3 c0_3 l0_3 A0_4 c0_4 l0_4 a1_1 a1_2 a2 w hr0_3
  · exact ins6 a0_0 a0_1 A0_2 c0_2 l0_2 A0_3 c0_3 l0_3 A0_4 c0_4 l0_4 a1_1 a1_2 a2 w hr0_3
  · exact ins7 a0_0 a0_1 A0_2 c0_2 l0_2 A0_3 c0_3 l0_3 A0_4 c0_4 l0_4 a1_1 a1_2 a2 w hr0_3
  · exact ins8 a0_0 a0_1 A0_2 c0_2 l0_2 A0_3 c0_3 l0_3 A0_4 c0_4 l0_4 a1_1 a1_2 a2 w hr0_3
  · exact ins9 a0_0 a0_1 A0_2 c0_2 l0_2 A0_3 c0_3 l0_3 A0_4 c0_4 l0_4 a1_1 a1_2 a2 w hr0_3
  · exact ins10 a0_0 a0_1 A0_2 c0_2 l0_2 A0_3 c0_3 l0_3 A0_4 c0_4 l0_4 a1_1 a1_2 a2 w hr0_3
  · exact ins11 a0_0 a0_1 A0_2 c0_2 l0_2 A0_3 c0_3 l0_3 A0_4 c0_4 l0_4 a1_1 a1_2 a2 w hr0_3
  · exact ins12 a0_0 a0_1 A0_2 c0_2 l0_2 A0_3 c0_3 l0_3 A0_4 c0_4 l0_4 a1_1 a1_2 a2 w hr0_3
  · exact ins13 a0_0 a0_1 A0_2 c0_2 l0_2 A0_3 c0_3 l0_3 A0_4 c0_4 l0_4 a1_1 a1_2 a2 w hr0_3
  · exact ins14 a0_0 a0_1 A0_2 c0_2 l0_2 A0_3 c0_3 l0_3 A0_4 c0_4 l0_4 a1_1 a1_2 a2 w hr0_3
  · exact ins15 a0_0 a0_1 A0_2 c0_2 l0_2 A0_3 c0_3 l0_3 A0_4 c0_4 l0_4 a1_1 a1_2 a2 w hr0_3
  · exact ins16 a0_0 a0_1 A0_2 c0_2 l0_2 A0_3 c0_3 l0_3 A0_4 c0_4 l0_4 a1_1 a1_2 a2 w hr0_3
  · exact ins17 a0_0 a0_1 A0_2 c0_2 l0_2 A0_3 c0_3 l0_3 A0_4 c0_4 l0_4 a1_1 a1_2 a2 w hr0_3
  · exact ins18 a0_0 a0_1 A0_2 c0_2 l0_2 A0_3 c0_3 l0_3 A0_4 c0_4 l0_4 a1_1 a1_2 a2 w hr0_3
  · exact ins19 a0_0 a0_1 A0_2 c0_2 l0_2 A0_3 c0_3 l0_3 A0_4 c0_4 l0_4 a1_1 a1_2 a2 w hr0_3
  · exact ins20 a0_0 a0_1 A0_2 c0_2 l0_2 A0_3 c0_3 l0_3 A0_4 c0_4 l0_4 a1_1 a1_2 a2 w hr0_3
  · exact ins21 a0_0 a0_1 A0_2 c0_2 l0_2 A0_3 c0_3 l0_3 A0_4 c0_4 l0_4 a1_1 a1_2 a2 w hr0_3
  · exact ins22 a0_0 a0_1 A0_2 c0_2 l0_2 A0_3 c0_3 l0_3 A0_4 c0_4 l0_4 a1_1 a1_2 a2 w hr0_3
  · exact ins23 a0_0 a0_1 A0_2 c0_2 l0_2 A0_3 c0_3 l0_3 A0_4 c0_4 l0_4 a1_1 a1_2 a2 w hr0_3
  · exact ins24 a0_0 a0_1 A0_2 c0_2 l0_2 A0_3 c0_3 l0_3 A0_4 c0_4 l0_4 a1_1 a1_2 a2 w hr0_3
  · exact ins25 a0_0 a0_1 A0_2 c0_2 l0_2 A0_3 c0_3 l0_3 A0_4 c0_4 l0_4 a1_1 a1_2 a2 w hr0_3
  · exact ins26 a0_0 a0_1 A0_2 c0_2 l0_2 A0_3 c0_3 l0_3 A0_4 c0_4 l0_4 a1_1 a1_2 a2 w hr0_3
  · exact ins27 a0_0 a0_1 A0_2 c0_2 l0_2 A0_3 c0_3 l0_3 A0_4 c0_4 l0_4 a1_1 a1_2 a2 w hr0_3
  · exact ins28 a0_0 a0_1 A0_2 c0_2 l0_2 A0_3 c0_3 l0_3 A0_4 c0_4 l0_4 a1_1 a1_2 a2 w hr0_3
  · exact ins29 a0_0 a0_1 A0_2 c0_2 l0_2 A0_3 c0_3 l0_3 A0_4 c0_4 l0_4 a1_1 a1_2 a2 w hr0_3
  · exact ins30 a0_0 a0_1 A0_2 c0_2 l0_2 A0_3 c0_3 l0_3 A0_4 c0_4 l0_4 a1_1 a1_2 a2 w hr0_3
  · exact ins31 a0_0 a0_1 A0_2 c0_2 l0_2 A0_3 c0_3 l0_3 A0_4 c0_4 l0_4 a1_1 a1_2 a2 w hr0_3
  · exact ins32 a0_0 a0_1 A0_2 c0_2 l0_2 A0_3 c0_3 l0_3 A0_4 c0_4 l0_4 a1_1 a1_2 a2 w hr0_3
  · exact ins33 a0_0 a0_1 A0_2 c0_2 l0_2 A0_3 c0_3 l0_3 A0_4 c0_4 l0_4 a1_1 a1_2 a2 w hr0_3
  · exact ins34 a0_0 a0_1 A0_2 c0_2 l0_2 A0_3 c0_3 l0_3 A0_4 c0_4 l0_4 a1_1 a1_2 a2 w hr0_3
  · exact ins35 a0_0 a0_1 A0_2 c0_2 l0_2 A0_3 c0_3 l0_3 A0_4 c0_4 l0_4 a1_1 a1_2 a2 w hr0_3
  · exact ins36 a0_0 a0_1 A0_2 c0_2 l0_2 A0_3 c0_3 l0_3 A0_4 c0_4 l0_4 a1_1 a1_2 a2 w hr0_3
  · have hg : grpOf a1_0 = 99 := by
      unfold grpOf
      repeat rw [if_neg (by omega)]
    rw [hg]
    exact insD a0_0 a0_1 A0_2 c0_2 l0_2 A0_3 c0_3 l0_3 A0_4 c0_4 l0_4 a1_0 hg a1_1 a1_2 a2 w hr0_3
end Go.Proofs.Ytpdcedmnkkiekaa.G
end
