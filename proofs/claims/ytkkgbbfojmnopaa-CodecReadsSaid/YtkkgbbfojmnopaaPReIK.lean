import Derived.Test.YtkkgbbfojmnopaaPReGx0
import Derived.Lib.Hide
set_option linter.unusedVariables false
set_option linter.unusedSimpArgs false
section
namespace Go.Proofs.Ytkkgbbfojmnopaa.G
open Go.RowKit Go.Proofs.YtkkgbbfojmnopaaW.PrintWords Go.Proofs.YtkkgbbfojmnopaaW.PrintLast Go.Proofs.YtkkgbbfojmnopaaW.PrintMore
def insK (g : Nat) (regs : Int) (nu nc : Nat) (cs : List S42) (protos a b : Int) : Bool :=
 let rg := decide (0 ≤ a ∧ a < regs)
 let pl := decide (0 ≤ b ∧ b < (nc : Int))
 if g = 0 then rg && (b == 0)
 else if g = 1 then rg && ((b == 0) || (b == 1))
 else if g = 2 then rg && decide (0 ≤ b ∧ b < (cs.length : Int))
 else if g = 3 then rg && (decide (0 ≤ b ∧ b < (cs.length : Int)) && ((rd_T42 cs b).f0 == 5))
 else if g = 4 then rg && decide (0 ≤ b ∧ b < regs)
 else if g = 5 then rg && decide (0 ≤ b ∧ b < (nu : Int))
 else if g = 6 then decide (0 ≤ a ∧ a < wrap64 (regs - 1)) && (b == 0)
 else if g = 7 then decide (0 ≤ a ∧ a < wrap64 (regs - 1)) && (decide (0 ≤ b) && decide (b ≤ 9))
 else if g = 8 then decide (0 ≤ a ∧ a < wrap64 (regs - 1)) && pl
 else if g = 9 then decide (0 ≤ a ∧ a < wrap64 (regs - 2)) && (b == 0)
 else if g = 10 then rg && (decide (0 < b) && decide (b < protos))
 else if g = 11 then rg && (decide (0 ≤ b) && (decide (b ≤ 20) && decide (0 ≤ a ∧ a < wrap64 (regs - b))))
 else if g = 12 then rg && pl
 else if g = 13 then (a == 0) && pl
 else if g = 14 then (a == 0) && (b == 0)
 else false
def grpOf (op : Int) : Nat := if op = 0 then 0 else if op = 1 then 1 else if op = 2 then 2 else if op = 3 then 4 else if op = 4 then 4 else if op = 5 then 0 else if op = 6 then 5 else if op = 7 then 5 else if op = 8 then 0 else if op = 9 then 4 else if op = 10 then 4 else if op = 11 then 3 else if op = 12 then 3 else if op = 13 then 0 else if op = 14 then 6 else if op = 15 then 9 else if op = 16 then 9 else if op = 17 then 10 else if op = 18 then 11 else if op = 19 then 0 else if op = 20 then 13 else if op = 21 then 12 else if op = 22 then 12 else if op = 23 then 12 else if op = 24 then 12 else if op = 25 then 7 else if op = 26 then 6 else if op = 27 then 6 else if op = 28 then 6 else if op = 29 then 6 else if op = 30 then 0 else if op = 31 then 0 else if op = 32 then 0 else if op = 33 then 8 else if op = 34 then 8 else if op = 35 then 12 else if op = 36 then 14 else 99
end Go.Proofs.Ytkkgbbfojmnopaa.G
end
