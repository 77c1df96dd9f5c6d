import Derived.Test.YtlbaejihlcfpeaaGreatDoorPStGx0
import Derived.Test.YtlbaejihlcfpeaaGreatDoorPStGxF79
set_option linter.unusedVariables false
set_option linter.unusedSimpArgs false
section
namespace Go.Proofs.YtlbaejihlcfpeaaGreatDoor.G
open Go.RowKit Go.Proofs.YtlbaejihlcfpeaaGreatDoorW.PrintWords Go.Proofs.YtlbaejihlcfpeaaGreatDoorW.PrintLast Go.Proofs.YtlbaejihlcfpeaaGreatDoorW.PrintMore
attribute [local go_sem] max2_int min2_int max_two min_two max_three min_three max_four min_four
set_option linter.unusedVariables false
set_option linter.unusedSimpArgs false
mutual
def tallowref03_One.j0 : Nat → ByteArray → Bool → Option (Int × Int)
  | 0, _, _ => none
  | k + 1, x0, x21 => if x21 = true then (some (0, 0)) else (if 0 < (x0.size : Int) then (if (bt x0 0) = 92 then (if (x0.size : Int) < 2 then (some (0, 0)) else (if 1 < (x0.size : Int) then (if (bt x0 1) = 110 then (some (10, 2)) else (if (bt x0 1) = 116 then (some (9, 2)) else (if (bt x0 1) = 92 then (tallowref03_One.j1 k x0 (bt x0 1) ((bt x0 1) == 92)) else (tallowref03_One.j1 k x0 (bt x0 1) ((bt x0 1) == 34))))) else (none))) else (some (bt x0 0, 1))) else (none))
def tallowref03_One.j1 : Nat → ByteArray → Int → Bool → Option (Int × Int)
  | 0, _, _, _ => none
  | k + 1, x0, x31, x36 => if x36 = true then (if 1 < (x0.size : Int) then (some (bt x0 1, 2)) else (none)) else (if x31 = 120 then (if (x0.size : Int) ≥ 4 then (if 2 < (x0.size : Int) then ((tallowref03_value.f k (bt x0 2)).bind fun t109 => (if t109 < 16 then (if 3 < (x0.size : Int) then ((tallowref03_value.f k (bt x0 3)).bind fun t110 => (tallowref03_One.j2 k x0 (decide (t110 < 16)))) else (none)) else (tallowref03_One.j2 k x0 false))) else (none)) else (tallowref03_One.j2 k x0 false)) else (some (0, 0)))
def tallowref03_One.j2 : Nat → ByteArray → Bool → Option (Int × Int)
  | 0, _, _ => none
  | k + 1, x0, x57 => if x57 = true then (if 2 < (x0.size : Int) then ((tallowref03_value.f k (bt x0 2)).bind fun t111 => (if 3 < (x0.size : Int) then ((tallowref03_value.f k (bt x0 3)).bind fun t112 => (some ((((16 * t111) % 256) + t112) % 256, 4))) else (none))) else (none)) else (some (0, 0))
end
def tallowref03_One.f (k : Nat) (a0 : ByteArray) : Option (Int × Int) := if (a0.size : Int) = 0 then (tallowref03_One.j0 k a0 true) else (if 0 < (a0.size : Int) then (if (bt a0 0) < 32 then (tallowref03_One.j0 k a0 true) else (if (bt a0 0) > 126 then (tallowref03_One.j0 k a0 true) else (tallowref03_One.j0 k a0 ((bt a0 0) == 34)))) else (none))
end Go.Proofs.YtlbaejihlcfpeaaGreatDoor.G
end
