import Derived.LaidMore
import Derived.LaidHandle
import Derived.Stop.Joined
import Derived.Lib.IfaceEq
import Derived.Lib.IndexMore
import Derived.Shelf.Abstract
import Derived.LaidEql
import Derived.Stop.Asserts
import Derived.RowKitTokens
import Derived.Lib.LaidTab
import Derived.Lib.AppendIntMem
import Derived.Stop.LaidErr
import Derived.WalkKit
import Derived.Deep.RegionLaw
import Derived.Deep.Cut
import Derived.WalkSpells
import Derived.Maps.OwnOps
import Derived.Maps.OwnSet
import Derived.Maps.Views
import Derived.Maps.RangeWalk
import Derived.Maps.Own
import Derived.Test.YtlbaejihlcfpeaaDoorPNmV
import Derived.Lib.Hide
set_option linter.unusedVariables false
set_option linter.unusedSimpArgs false
section
namespace Go.Proofs.YtlbaejihlcfpeaaDoor.G
open Go.Proofs.YtlbaejihlcfpeaaDoor.G
open Go.Shelf Go.Extern.Stop Go.Stop Go.Extern Go.RowKit Go.Proofs.YtlbaejihlcfpeaaDoorW.PrintWords Go.Proofs.YtlbaejihlcfpeaaDoorW.PrintLast Go.Proofs.YtlbaejihlcfpeaaDoorW.PrintMore
set_option linter.unusedVariables false
set_option linter.unusedSimpArgs false
theorem isTypeOf29 (v : Value) (w : World) : (Extern.ReflectliteType.typeOf #[.iface 30 v]).run Tryd.prog w = .ok (.iface 70 (.agg #[.pointer (some ⟨7, 30, none⟩)])) w := by kernel_rfl
theorem isComparable29 (w : World) : (cmpX #[.agg #[.pointer (some ⟨7, 30, none⟩)]]).run Tryd.prog w = .ok (.bool true) w := by kernel_rfl
theorem noIs53 (v : Value) (xT : TypeId) (w : World) : (Instr.typeAssert (.iface 37 v) xT 82 true).run Tryd.prog w = .ok (.tuple #[.nilIface, .bool false]) w := run_typeAssert_lacksB Tryd.underlying82 (by kernel_rfl) (by kernel_rfl) v xT w
theorem hasUnwrap53 (v : Value) (xT : TypeId) (w : World) : (Instr.typeAssert (.iface 37 v) xT 77 true).run Tryd.prog w = .ok (.tuple #[.iface 37 v, .bool true]) w := run_typeAssert_hasB Tryd.underlying77 (by kernel_rfl) v xT w
theorem methodUnwrap53 (v : Value) (w : World) : (Go.method 260 37 v "Unwrap").run Tryd.prog w = .ok (97, v) w := by kernel_rfl
set_option maxRecDepth 100000 in
set_option maxHeartbeats 4000000 in
theorem is_fault (p : Nat) (c : Int) (w : World) (h1 : w.cell? ⟨p, 0, none⟩ = some (.int .i64 c)) :
    Calls Tryd.prog 16 #[.iface 37 (.pointer (some ⟨p, 0, none⟩)), .iface 30 (.int .i64 c)] w fun e w' => e = .returned (.bool true) ∧ w' = w := by
  have h8 := @run_callFunc_extern Tryd.prog 28 _ Extern.ReflectliteType.typeOf Tryd.func28 (by kernel_rfl) (by kernel_rfl) (by kernel_rfl) (by kernel_rfl)
  have h32 := @run_callFunc_extern Tryd.prog 103 _ cmpX Tryd.func103 (by kernel_rfl) (by kernel_rfl) (by kernel_rfl) (by kernel_rfl)
  have tT := isTypeOf29
  have cT := isComparable29
  have mR := isMethodComparable
  have nW := noIs53
  have uW := hasUnwrap53
  have mU := methodUnwrap53
  have hty := run_eql_iface_types (P := Tryd.prog) 37 30 (.pointer (some ⟨p, 0, none⟩)) (.int .i64 c) Tryd.underlying26 (by decide) w
  have heq := Lib.run_eql_iface_int (P := Tryd.prog) (t := 26) (tx := 30) (k := .i64) w c c Tryd.underlying26 (by kernel_rfl) Tryd.underlying30
  rw [beq_self_eq_true] at heq
  go_enter Tryd.func16, Tryd.ntmps16
  go_wp2
  refine wp_loop_rounds 2 ?_
  rw [rounds_succ]
  go_wp2
  rw [rounds_succ]
  go_wp2
  go_ret
  exact ⟨rfl, rfl⟩
end Go.Proofs.YtlbaejihlcfpeaaDoor.G
end
