-- written by a program of this session (handprint.sh), over functions proved by hand
import Derived.Test.YtnklefbojabblaaProg
import Derived.Below
import Derived.Deep.Draws
import Derived.Deep.AppendLies
import Derived.Maps.AppendAt
import Derived.OwnWalk
import Derived.Laws.BytesArg
import Derived.Laws.MakeOwn
import Derived.Laws.OwnMore
import Derived.Deep.OwnRows
import Derived.Tactics
import Derived.Lib.ConvBytes
import Derived.Laws.Slices
import Derived.WalkKit
import Derived.KernelRfl
import Derived.RowKit3
import Derived.Deep.LoopGhost
import Derived.Deep.QuietTactic
import Derived.BigQuiet
import Derived.WideLaws
import Derived.Deep.DeepCutAuto
import Derived.Deep.CutBlock
import Derived.Deep.RegionHeld3
import Derived.Laws.Rows
import Derived.Lib.AppendStr
import Derived.ArgAppend
import Derived.Laws.IdiomCopy
import Derived.OrdersHeld
import Derived.Laws.BitsLemmas
import Derived.RowKit
import Derived.Lib.Hide
import Derived.Test.YtnklefbojabblaaHQ
import Derived.Test.YtnklefbojabblaaWWords
import Derived.Test.YtnklefbojabblaaWLast
import Derived.Test.YtnklefbojabblaaWTab
import Derived.Test.YtnklefbojabblaaWFour
import Derived.Test.YtnklefbojabblaaWQPut
import Derived.Test.YtnklefbojabblaaWApart
import Derived.Test.YtnklefbojabblaaWArr
import Derived.Test.YtnklefbojabblaaWZeros
import Derived.Test.YtnklefbojabblaaWFoot
import Derived.Test.YtnklefbojabblaaWKept
import Derived.Test.YtnklefbojabblaaWShare
import Derived.Test.YtnklefbojabblaaWN
import Derived.Test.YtnklefbojabblaaWFootNe
import Derived.Test.YtnklefbojabblaaWAt
import Derived.Test.YtnklefbojabblaaWEqStruct
import Derived.Test.YtnklefbojabblaaWRepsOne
import Derived.Test.YtnklefbojabblaaWInv
import Derived.Test.YtnklefbojabblaaWInvWords
import Derived.Test.YtnklefbojabblaaWGuard
import Derived.Test.YtnklefbojabblaaWNEv
import Derived.Test.YtnklefbojabblaaWMore
namespace Go.Proofs.Ytnklefbojabblaa.G
open Go.RowKit Go.Proofs.YtnklefbojabblaaW.PrintWords Go.Proofs.YtnklefbojabblaaW.PrintLast Go.Proofs.YtnklefbojabblaaW.PrintMore
attribute [local go_sem] max2_int min2_int max_two min_two max_three min_three max_four min_four   -- for this text's walks alone
set_option linter.unusedVariables false
set_option linter.unusedSimpArgs false



def errW : Option Int → Value
  | none => .nilIface
  | some c => .iface 0 (.int .i64 c)
theorem errW_none : errW none = .nilIface := rfl
theorem errW_some (c : Int) : errW (some c) = .iface 0 (.int .i64 c) := rfl

theorem info5 : (Try.prog.info? 5).map (fun i => (i.zero, i.size, i.bytes)) = some (some (.int .u8 0), 1, 1) := by kernel_rfl
theorem info9 : (Try.prog.info? 9).map (fun i => (i.zero, i.size, i.bytes)) = some (some (.string ⟨#[]⟩), 1, 16) := by kernel_rfl
-- the values' own types

end Go.Proofs.Ytnklefbojabblaa.G
