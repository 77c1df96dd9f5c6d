import Derived.LaidMore
import Derived.LaidHandle
import Derived.Stop.Joined
import Derived.Lib.IfaceEq
import Derived.Lib.ItoaLen
import Derived.Shelf.Abstract
import Derived.LaidEql
import Derived.Stop.Asserts
import Derived.RowKitTokens
import Derived.Lib.LaidTab
import Derived.Lib.AppendIntMem
import Derived.Stop.LaidErr
import Derived.WalkKit
import Derived.Deep.RegionLaw
import Derived.Deep.Cut
import Derived.WalkSpells
import Derived.Test.YtnombbcgdfgadaaDoorPKnV
import Derived.Lib.Hide
set_option linter.unusedVariables false
set_option linter.unusedSimpArgs false
section
namespace Go.Proofs.YtnombbcgdfgadaaDoor.G
open Go.Shelf Go.Extern.Stop Go.Stop Go.Extern Go.RowKit Go.Proofs.YtnombbcgdfgadaaDoorW.PrintWords Go.Proofs.YtnombbcgdfgadaaDoorW.PrintLast Go.Proofs.YtnombbcgdfgadaaDoorW.PrintMore
set_option linter.unusedVariables false
set_option linter.unusedSimpArgs false
def nm (k : Nat) : ByteArray := match k with
  | 0 => ⟨#[114, 117, 110]⟩
  | 1 => ⟨#[114, 101, 108, 101, 97, 115, 101]⟩
  | 2 => ⟨#[115, 108, 105, 99, 101]⟩
  | 3 => ⟨#[99, 111, 108, 108, 101, 99, 116]⟩
  | 4 => ⟨#[102, 105, 110]⟩
  | _ => ⟨#[]⟩
def nameOf (a0 : Int) : ByteArray := if a0 < 0 then ⟨#[]⟩ else nm a0.toNat
def tallowref33_Name.f (a0 : Int) : Option (ByteArray) := some (nameOf a0)
set_option maxHeartbeats 4000000 in
set_option maxRecDepth 100000 in
theorem tallowref33_Name.calls (a0 : Int) (r : ByteArray) (w : World) (h : tallowref33_Name.f a0 = some r) :
    Calls Tryd.prog 29 #[.int .i64 a0] w fun e w' => e = .returned (.string r) ∧ Below w.heap.size w w' := by
  obtain rfl := Option.some.inj h
  clear h
  by_cases h0 : a0 < 0
  · have hb : decide (a0 < 0) = true := decide_eq_true h0
    have hr : nameOf a0 = ⟨#[]⟩ := by unfold nameOf; rw [if_pos h0]
    rw [hr]
    clear hr h0
    go_enter Tryd.func29, Tryd.ntmps29
    go_wp2
    go_ret
    exact ⟨rfl, by repeat (first | exact Below.refl _ _ | refine below_set ?_ (Nat.le_refl _) | apply below_alloc)⟩
  · have hb : decide (a0 < 0) = false := decide_eq_false h0
    by_cases h4 : a0 > 4
    · have hb4 : decide (a0 > 4) = true := decide_eq_true h4
      have hb5 : decide (4 < a0) = true := decide_eq_true h4
      have hr : nameOf a0 = ⟨#[]⟩ := by
        unfold nameOf
        rw [if_neg h0]
        obtain ⟨m, hm⟩ : ∃ m : Nat, a0.toNat = m + 5 := ⟨a0.toNat - 5, by omega⟩
        rw [hm]
        rfl
      rw [hr]
      clear hr h0 h4
      go_enter Tryd.func29, Tryd.ntmps29
      go_wp2
      go_ret
      exact ⟨rfl, by repeat (first | exact Below.refl _ _ | refine below_set ?_ (Nat.le_refl _) | apply below_alloc)⟩
    · obtain rfl | rfl | rfl | rfl | rfl : a0 = 0 ∨ a0 = 1 ∨ a0 = 2 ∨ a0 = 3 ∨ a0 = 4 := by omega
      all_goals
        clear h0 h4 hb
        go_enter Tryd.func29, Tryd.ntmps29
        go_wp2
        go_ret
        exact ⟨rfl, by repeat (first | exact Below.refl _ _ | refine below_set ?_ (Nat.le_refl _) | apply below_alloc)⟩
def namesV : Value := .agg #[.string (nm 0), .string (nm 1), .string (nm 2), .string (nm 3), .string (nm 4)]
set_option maxRecDepth 100000 in
theorem names_any (w : World) : Calls Tryd.prog 25 #[] w fun e w' => e = .returned namesV ∧ Below w.heap.size w w' := by
  go_enter Tryd.func25, Tryd.ntmps25
  go_wp2
  refine bodyPost_ret (results_cell_row rfl _ _ _ 63 #[.string (nm 0), .string (nm 1), .string (nm 2), .string (nm 3), .string (nm 4)] (0, 0) _ rfl ?_ Tryd.underlying63 rfl (by kernel_rfl)) rfl ?_
  · exact blk_new _ _
  · exact ⟨rfl, by repeat (first | exact Below.refl _ _ | refine below_set ?_ (Nat.le_refl _) | apply below_alloc)⟩
end Go.Proofs.YtnombbcgdfgadaaDoor.G
end
