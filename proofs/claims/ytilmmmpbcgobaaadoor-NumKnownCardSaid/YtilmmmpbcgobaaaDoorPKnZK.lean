import Derived.Shelf.Abstract
import Derived.LaidEql
import Derived.Stop.Asserts
import Derived.RowKitTokens
import Derived.Lib.LaidTab
import Derived.Lib.AppendIntMem
import Derived.Lib.ItoaLen
import Derived.Test.YtilmmmpbcgobaaaDoorPKnZb
import Derived.Test.YtilmmmpbcgobaaaDoorPKnGxF12
import Derived.Lib.Hide
set_option linter.unusedVariables false
set_option linter.unusedSimpArgs false
section
namespace Go.Proofs.YtilmmmpbcgobaaaDoor.G
open Go.Shelf Go.Extern.Stop Go.Stop Go.Extern Go.RowKit Go.Proofs.YtilmmmpbcgobaaaDoorW.PrintWords Go.Proofs.YtilmmmpbcgobaaaDoorW.PrintLast Go.Proofs.YtilmmmpbcgobaaaDoorW.PrintMore
set_option linter.unusedVariables false
set_option linter.unusedSimpArgs false
def rowsK : List S39 := (([(⟨3, 7, 2, 3⟩ : S39), (⟨3, (-7), 2, (-4)⟩ : S39), (⟨3, 7, (-2), (-4)⟩ : S39), (⟨3, (-7), (-2), 3⟩ : S39), (⟨3, (-9223372036854775808), (-1), (-9223372036854775808)⟩ : S39), (⟨3, 6, (-3), (-2)⟩ : S39), (⟨3, (-9223372036854775808), 1, (-9223372036854775808)⟩ : S39), (⟨3, 9223372036854775807, (-9223372036854775808), (-1)⟩ : S39), (⟨4, 7, 3, 1⟩ : S39), (⟨4, (-7), 3, 2⟩ : S39), (⟨4, 7, (-3), (-2)⟩ : S39), (⟨4, (-7), (-3), (-1)⟩ : S39), (⟨4, 5, (-1), 0⟩ : S39), (⟨4, (-9223372036854775808), (-1), 0⟩ : S39), (⟨8, 1, 63, (-9223372036854775808)⟩ : S39), (⟨8, 1, 64, 0⟩ : S39), (⟨8, (-1), (-1), 9223372036854775807⟩ : S39), (⟨9, (-1), 60, 15⟩ : S39), (⟨9, 1, (-3), 8⟩ : S39), (⟨9, 5, (-9223372036854775808), 0⟩ : S39), (⟨8, 5, (-9223372036854775808), 0⟩ : S39), (⟨8, 5, 9223372036854775807, 0⟩ : S39), (⟨9, 5, 0, 5⟩ : S39), (⟨9, (-9223372036854775808), 63, 1⟩ : S39), (⟨2, 4611686018427387904, 4, 0⟩ : S39), (⟨2, (-9223372036854775808), (-1), (-9223372036854775808)⟩ : S39), (⟨5, 12, 10, 8⟩ : S39), (⟨6, 12, 10, 14⟩ : S39), (⟨7, 12, 10, 6⟩ : S39), (⟨0, 9223372036854775807, 1, (-9223372036854775808)⟩ : S39), (⟨1, (-9223372036854775808), 1, 9223372036854775807⟩ : S39)] : List (S39)))
def strsK : List ByteArray := ([(⟨#[48, 49]⟩ : ByteArray), (⟨#[45, 48]⟩ : ByteArray), (⟨#[]⟩ : ByteArray), (⟨#[45]⟩ : ByteArray), (⟨#[43, 49]⟩ : ByteArray), (⟨#[48, 48, 48, 48, 48, 48, 48, 48, 48, 48, 48, 48, 48, 48, 48, 48, 48, 48, 48, 48, 48, 48, 48]⟩ : ByteArray), (⟨#[49, 32]⟩ : ByteArray), (⟨#[32, 49]⟩ : ByteArray), (⟨#[45, 45, 49]⟩ : ByteArray), (⟨#[49, 97]⟩ : ByteArray), (⟨#[57, 50, 50, 51, 51, 55, 50, 48, 51, 54, 56, 53, 52, 55, 55, 53, 56, 48, 56]⟩ : ByteArray), (⟨#[45, 57, 50, 50, 51, 51, 55, 50, 48, 51, 54, 56, 53, 52, 55, 55, 53, 56, 48, 57]⟩ : ByteArray), (⟨#[57, 57, 57, 57, 57, 57, 57, 57, 57, 57, 57, 57, 57, 57, 57, 57, 57, 57, 57, 57, 57, 57, 57, 57, 57, 57]⟩ : ByteArray)] : List ByteArray)
theorem rowsK_do : (List.range 31).all (fun i => decide (tallowlaw01_do.f (rd_T39 rowsK (i : Int)).f0 (rd_T39 rowsK (i : Int)).f1 (rd_T39 rowsK (i : Int)).f2 = some (rd_T39 rowsK (i : Int)).f3)) = true := by decide +kernel
theorem strsK_lo : (List.range 10).all (fun i => decide (num_Parse.f (rdOf ByteArray.empty strsK (i : Int)) = some (0, 4))) = true := by decide +kernel
theorem strsK_hi : (List.range 3).all (fun i => decide (num_Parse.f (rdOf ByteArray.empty strsK ((i + 10 : Nat) : Int)) = some (0, 15))) = true := by decide +kernel
theorem l0_ev {r : Bool} (hend : Ev (fun k => tallowlaw01_NumKnown.l0 k rowsK ((31 : Nat) : Int)) r) : ∀ d i : Nat, i + d = 31 → Ev (fun k => tallowlaw01_NumKnown.l0 k rowsK (i : Int)) r
  | 0, i, h => by
    obtain rfl : i = 31 := by omega
    exact hend
  | d + 1, i, h => by
    have hd : tallowlaw01_do.f (rd_T39 rowsK (i : Int)).f0 (rd_T39 rowsK (i : Int)).f1 (rd_T39 rowsK (i : Int)).f2 = some (rd_T39 rowsK (i : Int)).f3 :=
      of_decide_eq_true (List.all_eq_true.1 rowsK_do i (List.mem_range.2 (by omega)))
    have hw : wrap64 ((i : Int) + 1) = ((i + 1 : Nat) : Int) := by unfold wrap64; omega
    have hl : (i : Int) < (rowsK.length : Int) := by show (i : Int) < 31; omega
    exact Ev.step (f := fun k => tallowlaw01_NumKnown.l0 k rowsK ((i + 1 : Nat) : Int)) (fun k => by rw [tallowlaw01_NumKnown.l0, if_pos hl, if_pos (by omega), hd, Option.bind_some, if_pos rfl, hw]) (l0_ev hend d (i + 1) (by omega))
theorem l1_ev {r : Bool} (hend : Ev (fun k => tallowlaw01_NumKnown.l1 k strsK ((13 : Nat) : Int) ((13 : Nat) : Int)) r) : ∀ d i : Nat, i + d = 13 → Ev (fun k => tallowlaw01_NumKnown.l1 k strsK ((13 : Nat) : Int) (i : Int)) r
  | 0, i, h => by
    obtain rfl : i = 13 := by omega
    exact hend
  | d + 1, i, h => by
    have hw : wrap64 ((i : Int) + 1) = ((i + 1 : Nat) : Int) := by unfold wrap64; omega
    have hl : (i : Int) < (strsK.length : Int) := by show (i : Int) < 13; omega
    refine Ev.step (f := fun k => tallowlaw01_NumKnown.l1 k strsK ((13 : Nat) : Int) ((i + 1 : Nat) : Int)) (fun k => ?_) (l1_ev hend d (i + 1) (by omega))
    rw [tallowlaw01_NumKnown.l1, if_pos (by omega), if_pos (by omega), if_pos hl]
    by_cases h9 : (i : Int) > 9
    · have hp : num_Parse.f (rdOf ByteArray.empty strsK (i : Int)) = some (0, 15) := by
        have := of_decide_eq_true (List.all_eq_true.1 strsK_hi (i - 10) (List.mem_range.2 (by omega)))
        rwa [show i - 10 + 10 = i from by omega] at this
      rw [if_pos h9, hp, Option.bind_some, if_pos rfl, if_pos rfl, hw]
    · have hp : num_Parse.f (rdOf ByteArray.empty strsK (i : Int)) = some (0, 4) := of_decide_eq_true (List.all_eq_true.1 strsK_lo i (List.mem_range.2 (by omega)))
      rw [if_neg h9, hp, Option.bind_some, if_pos rfl, if_pos rfl, hw]
theorem l2_step {r : Bool} {x8 x9 x10 x11 x12 x13 x15 x17 x19 : Int} {x20 s out : ByteArray} {j j' : Int} (hj : j ≤ 10) (hs : num_Sign.f j = some s) (h1 : x20.size + s.size ≤ 9223372036854775807) (h2 : (x20 ++ s).size + 1 ≤ 9223372036854775807)
    (ho : (x20 ++ s) ++ (⟨#[32]⟩ : ByteArray) = out) (hw : wrap64 (j + 1) = j') (h : Ev (fun k => tallowlaw01_NumKnown.l2 k x8 x9 x10 x11 x12 x13 x15 x17 x19 out j') r) : Ev (fun k => tallowlaw01_NumKnown.l2 k x8 x9 x10 x11 x12 x13 x15 x17 x19 x20 j) r :=
  Ev.step (f := fun k => tallowlaw01_NumKnown.l2 k x8 x9 x10 x11 x12 x13 x15 x17 x19 out j') (fun k => by rw [tallowlaw01_NumKnown.l2, if_pos hj, hs, Option.bind_some, if_pos h1, if_pos h2, ho, hw]) h
theorem op7 : num_Op.f ⟨#[126]⟩ = some 7 := by decide +kernel
theorem opNo : num_Op.f ⟨#[47]⟩ = some (-1) := by decide +kernel
theorem opNone : num_Op.f ⟨#[]⟩ = some (-1) := by decide +kernel
theorem textLeast : num_Text.f (-9223372036854775808) = some ⟨#[45, 57, 50, 50, 51, 51, 55, 50, 48, 51, 54, 56, 53, 52, 55, 55, 53, 56, 48, 56]⟩ := by decide +kernel
theorem text0 : num_Text.f 0 = some ⟨#[48]⟩ := by decide +kernel
theorem l2_end : Ev (fun k => tallowlaw01_NumKnown.l2 k (-9223372036854775808) 0 9223372036854775807 0 0 0 2 2 8 (⟨#[32, 43, 32, 45, 32, 42, 32, 47, 47, 32, 37, 32, 38, 32, 124, 32, 126, 32, 60, 60, 32, 62, 62, 32, 32]⟩ : ByteArray) 11) true := by
  refine Ev.step (f := fun _ => some true) (fun k => ?_) (Ev.now true)
  rw [tallowlaw01_NumKnown.l2, if_neg (by decide), if_pos rfl, if_pos rfl, if_pos rfl, if_pos rfl, if_pos rfl, if_pos rfl, if_pos rfl, if_pos rfl, if_pos rfl, if_pos (ByteArray.toList_mk _)]
  rw [op7, Option.bind_some, if_pos rfl, opNo, Option.bind_some, if_pos rfl, opNone, Option.bind_some, if_pos rfl, textLeast, Option.bind_some, if_pos (ByteArray.toList_mk _), text0, Option.bind_some, if_pos (ByteArray.toList_mk _), works_ok]
  rfl
theorem l2_all : Ev (fun k => tallowlaw01_NumKnown.l2 k (-9223372036854775808) 0 9223372036854775807 0 0 0 2 2 8 (⟨#[]⟩ : ByteArray) (-1)) true := by
  refine l2_step (s := ⟨#[]⟩) (out := ⟨#[32]⟩) (j' := 0) (by decide) (by decide +kernel) (by decide) (by decide) (by decide +kernel) (by decide +kernel) ?_
  refine l2_step (s := ⟨#[43]⟩) (out := ⟨#[32, 43, 32]⟩) (j' := 1) (by decide) (by decide +kernel) (by decide) (by decide) (by decide +kernel) (by decide +kernel) ?_
  refine l2_step (s := ⟨#[45]⟩) (out := ⟨#[32, 43, 32, 45, 32]⟩) (j' := 2) (by decide) (by decide +kernel) (by decide) (by decide) (by decide +kernel) (by decide +kernel) ?_
  refine l2_step (s := ⟨#[42]⟩) (out := ⟨#[32, 43, 32, 45, 32, 42, 32]⟩) (j' := 3) (by decide) (by decide +kernel) (by decide) (by decide) (by decide +kernel) (by decide +kernel) ?_
  refine l2_step (s := ⟨#[47, 47]⟩) (out := ⟨#[32, 43, 32, 45, 32, 42, 32, 47, 47, 32]⟩) (j' := 4) (by decide) (by decide +kernel) (by decide) (by decide) (by decide +kernel) (by decide +kernel) ?_
  refine l2_step (s := ⟨#[37]⟩) (out := ⟨#[32, 43, 32, 45, 32, 42, 32, 47, 47, 32, 37, 32]⟩) (j' := 5) (by decide) (by decide +kernel) (by decide) (by decide) (by decide +kernel) (by decide +kernel) ?_
  refine l2_step (s := ⟨#[38]⟩) (out := ⟨#[32, 43, 32, 45, 32, 42, 32, 47, 47, 32, 37, 32, 38, 32]⟩) (j' := 6) (by decide) (by decide +kernel) (by decide) (by decide) (by decide +kernel) (by decide +kernel) ?_
  refine l2_step (s := ⟨#[124]⟩) (out := ⟨#[32, 43, 32, 45, 32, 42, 32, 47, 47, 32, 37, 32, 38, 32, 124, 32]⟩) (j' := 7) (by decide) (by decide +kernel) (by decide) (by decide) (by decide +kernel) (by decide +kernel) ?_
  refine l2_step (s := ⟨#[126]⟩) (out := ⟨#[32, 43, 32, 45, 32, 42, 32, 47, 47, 32, 37, 32, 38, 32, 124, 32, 126, 32]⟩) (j' := 8) (by decide) (by decide +kernel) (by decide) (by decide) (by decide +kernel) (by decide +kernel) ?_
  refine l2_step (s := ⟨#[60, 60]⟩) (out := ⟨#[32, 43, 32, 45, 32, 42, 32, 47, 47, 32, 37, 32, 38, 32, 124, 32, 126, 32, 60, 60, 32]⟩) (j' := 9) (by decide) (by decide +kernel) (by decide) (by decide) (by decide +kernel) (by decide +kernel) ?_
  refine l2_step (s := ⟨#[62, 62]⟩) (out := ⟨#[32, 43, 32, 45, 32, 42, 32, 47, 47, 32, 37, 32, 38, 32, 124, 32, 126, 32, 60, 60, 32, 62, 62, 32]⟩) (j' := 10) (by decide) (by decide +kernel) (by decide) (by decide) (by decide +kernel) (by decide +kernel) ?_
  refine l2_step (s := ⟨#[]⟩) (out := ⟨#[32, 43, 32, 45, 32, 42, 32, 47, 47, 32, 37, 32, 38, 32, 124, 32, 126, 32, 60, 60, 32, 62, 62, 32, 32]⟩) (j' := 11) (by decide) (by decide +kernel) (by decide) (by decide) (by decide +kernel) (by decide +kernel) ?_
  exact l2_end
theorem p1 : num_Parse.f ⟨#[45, 57, 50, 50, 51, 51, 55, 50, 48, 51, 54, 56, 53, 52, 55, 55, 53, 56, 48, 56]⟩ = some (-9223372036854775808, 0) := by decide +kernel
theorem p2 : num_Parse.f ⟨#[57, 50, 50, 51, 51, 55, 50, 48, 51, 54, 56, 53, 52, 55, 55, 53, 56, 48, 55]⟩ = some (9223372036854775807, 0) := by decide +kernel
theorem p3 : num_Parse.f ⟨#[48]⟩ = some (0, 0) := by decide +kernel
theorem d1 : num_Do.f 10 1 1 = some (0, 2) := by decide +kernel
theorem d2 : num_Do.f (-1) 1 0 = some (0, 2) := by decide +kernel
theorem d3 : num_Do.f 4 1 0 = some (0, 8) := by decide +kernel
theorem l1_end : Ev (fun k => tallowlaw01_NumKnown.l1 k strsK ((13 : Nat) : Int) ((13 : Nat) : Int)) true :=
  Ev.step (f := fun k => tallowlaw01_NumKnown.l2 k (-9223372036854775808) 0 9223372036854775807 0 0 0 2 2 8 (⟨#[]⟩ : ByteArray) (-1)) (fun k => by
    rw [tallowlaw01_NumKnown.l1, if_neg (by decide), p1, Option.bind_some, p2, Option.bind_some, p3, Option.bind_some, d1, Option.bind_some, d2, Option.bind_some, d3, Option.bind_some]) l2_all
theorem l0_end : Ev (fun k => tallowlaw01_NumKnown.l0 k rowsK ((31 : Nat) : Int)) true :=
  Ev.step (f := fun k => tallowlaw01_NumKnown.l1 k strsK ((13 : Nat) : Int) ((0 : Nat) : Int)) (fun k => by
    rw [tallowlaw01_NumKnown.l0, if_neg (show ¬ ((31 : Nat) : Int) < (rowsK.length : Int) from by decide)]; rfl) (l1_ev l1_end 13 0 rfl)
theorem numKnown : ∃ k, tallowlaw01_NumKnown.f k = some true := (l0_ev l0_end 31 0 rfl).rounds
end Go.Proofs.YtilmmmpbcgobaaaDoor.G
end
