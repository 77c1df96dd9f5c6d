import Derived.LaidMore
import Derived.LaidHandle
import Derived.Stop.Joined
import Derived.Lib.IfaceEq
import Derived.Lib.IndexMore
import Derived.Shelf.Abstract
import Derived.LaidEql
import Derived.Stop.Asserts
import Derived.RowKitTokens
import Derived.Lib.LaidTab
import Derived.Lib.AppendIntMem
import Derived.Stop.LaidErr
import Derived.WalkKit
import Derived.Deep.RegionLaw
import Derived.Deep.Cut
import Derived.WalkSpells
import Derived.Maps.OwnOps
import Derived.Maps.OwnSet
import Derived.Maps.Views
import Derived.Maps.RangeWalk
import Derived.Maps.Own
import Derived.Test.YtlbaejihlcfpeaaGreatDoorPStV
import Derived.Lib.Hide
set_option linter.unusedVariables false
set_option linter.unusedSimpArgs false
section
namespace Go.Proofs.YtlbaejihlcfpeaaGreatDoor.G
open Go.Shelf Go.Extern.Stop Go.Stop Go.Extern Go.RowKit Go.Proofs.YtlbaejihlcfpeaaGreatDoorW.PrintWords Go.Proofs.YtlbaejihlcfpeaaGreatDoorW.PrintLast Go.Proofs.YtlbaejihlcfpeaaGreatDoorW.PrintMore
set_option linter.unusedVariables false
set_option linter.unusedSimpArgs false
theorem isTypeOf29 (v : Value) (w : World) : (Extern.ReflectliteType.typeOf #[.iface 27 v]).run Tryz.prog w = .ok (.iface 98 (.agg #[.pointer (some ⟨7, 27, none⟩)])) w := by kernel_rfl
theorem isComparable29 (w : World) : (cmpX #[.agg #[.pointer (some ⟨7, 27, none⟩)]]).run Tryz.prog w = .ok (.bool true) w := by kernel_rfl
theorem noIs53 (v : Value) (xT : TypeId) (w : World) : (Instr.typeAssert (.iface 48 v) xT 112 true).run Tryz.prog w = .ok (.tuple #[.nilIface, .bool false]) w := run_typeAssert_lacksB Tryz.underlying112 (by kernel_rfl) (by kernel_rfl) v xT w
theorem hasUnwrap53 (v : Value) (xT : TypeId) (w : World) : (Instr.typeAssert (.iface 48 v) xT 105 true).run Tryz.prog w = .ok (.tuple #[.iface 48 v, .bool true]) w := run_typeAssert_hasB Tryz.underlying105 (by kernel_rfl) v xT w
theorem methodUnwrap53 (v : Value) (w : World) : (Go.method 287 48 v "Unwrap").run Tryz.prog w = .ok (124, v) w := by kernel_rfl
set_option maxRecDepth 100000 in
set_option maxHeartbeats 4000000 in
theorem is_fault (p : Nat) (c : Int) (w : World) (h1 : w.cell? ⟨p, 0, none⟩ = some (.int .i64 c)) :
    Calls Tryz.prog 23 #[.iface 48 (.pointer (some ⟨p, 0, none⟩)), .iface 27 (.int .i64 c)] w fun e w' => e = .returned (.bool true) ∧ w' = w := by
  have h8 := @run_callFunc_extern Tryz.prog 46 _ Extern.ReflectliteType.typeOf Tryz.func46 (by kernel_rfl) (by kernel_rfl) (by kernel_rfl) (by kernel_rfl)
  have h32 := @run_callFunc_extern Tryz.prog 131 _ cmpX Tryz.func131 (by kernel_rfl) (by kernel_rfl) (by kernel_rfl) (by kernel_rfl)
  have tT := isTypeOf29
  have cT := isComparable29
  have mR := isMethodComparable
  have nW := noIs53
  have uW := hasUnwrap53
  have mU := methodUnwrap53
  have hty := run_eql_iface_types (P := Tryz.prog) 48 27 (.pointer (some ⟨p, 0, none⟩)) (.int .i64 c) Tryz.underlying24 (by decide) w
  have heq := Lib.run_eql_iface_int (P := Tryz.prog) (t := 24) (tx := 27) (k := .i64) w c c Tryz.underlying24 (by kernel_rfl) Tryz.underlying27
  rw [beq_self_eq_true] at heq
  go_enter Tryz.func23, Tryz.ntmps23
  go_wp2
  refine wp_loop_rounds 2 ?_
  rw [rounds_succ]
  go_wp2
  rw [rounds_succ]
  go_wp2
  go_ret
  exact ⟨rfl, rfl⟩
end Go.Proofs.YtlbaejihlcfpeaaGreatDoor.G
end
