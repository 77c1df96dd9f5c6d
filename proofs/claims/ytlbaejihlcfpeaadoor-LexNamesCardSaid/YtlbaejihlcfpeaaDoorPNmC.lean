import Derived.LaidMore
import Derived.LaidHandle
import Derived.Stop.Joined
import Derived.Lib.IfaceEq
import Derived.Lib.IndexMore
import Derived.Shelf.Abstract
import Derived.LaidEql
import Derived.Stop.Asserts
import Derived.RowKitTokens
import Derived.Lib.LaidTab
import Derived.Lib.AppendIntMem
import Derived.Stop.LaidErr
import Derived.WalkKit
import Derived.Deep.RegionLaw
import Derived.Deep.Cut
import Derived.WalkSpells
import Derived.Maps.OwnOps
import Derived.Maps.OwnSet
import Derived.Maps.Views
import Derived.Maps.RangeWalk
import Derived.Maps.Own
import Derived.Test.YtlbaejihlcfpeaaDoorPNmA1
import Derived.Lib.Hide
set_option linter.unusedVariables false
set_option linter.unusedSimpArgs false
section
namespace Go.Proofs.YtlbaejihlcfpeaaDoor.G
open Go.Proofs.YtlbaejihlcfpeaaDoor.G
open Go.Shelf Go.Extern.Stop Go.Stop Go.Extern Go.RowKit Go.Proofs.YtlbaejihlcfpeaaDoorW.PrintWords Go.Proofs.YtlbaejihlcfpeaaDoorW.PrintLast Go.Proofs.YtlbaejihlcfpeaaDoorW.PrintMore
set_option linter.unusedVariables false
set_option linter.unusedSimpArgs false
theorem indexByte_lt : ∀ (l : List UInt8) (c : UInt8), Lib.indexByte l c = -1 ∨ (0 ≤ Lib.indexByte l c ∧ Lib.indexByte l c < (l.length : Int))
  | [], c => .inl rfl
  | x :: r, c => by
    have ih := indexByte_lt r c
    unfold Lib.indexByte
    simp only [List.length_cons]
    cases hx : (x == c)
    · rw [if_neg Bool.false_ne_true]
      cases hr : (Lib.indexByte r c == -1)
      · rw [if_neg Bool.false_ne_true]
        have : ¬ Lib.indexByte r c = -1 := by simpa using hr
        omega
      · rw [if_pos rfl]; exact .inl rfl
    · rw [if_pos rfl]; omega
def cutF (s : ByteArray) : ByteArray × ByteArray × Bool :=
  if 0 ≤ Lib.indexByte s.data.toList 10 then (s.extract 0 (Lib.indexByte s.data.toList 10).toNat, s.extract (Lib.indexByte s.data.toList 10 + 1).toNat s.size, true) else (s, ⟨#[]⟩, false)
theorem cut_lt (s : ByteArray) : Lib.indexByte s.data.toList 10 = -1 ∨ (0 ≤ Lib.indexByte s.data.toList 10 ∧ Lib.indexByte s.data.toList 10 < (s.size : Int)) := by
  have := indexByte_lt s.data.toList 10
  rwa [Array.length_toList] at this
set_option maxHeartbeats 4000000 in
set_option maxRecDepth 100000 in
theorem cut_in (s : ByteArray) (w : World) (hs : s.size ≤ 140737488355328) :
    Calls Tryd.prog 43 #[.string s, .string ⟨#[10]⟩] w fun e w' => e = .returned (.tuple #[.string (cutF s).1, .string (cutF s).2.1, .bool (cutF s).2.2]) ∧ Below w.heap.size w w' := by
  have hi := cut_lt s
  have HR : ∀ i, Lib.indexByte s.data.toList 10 = i → cutF s = if 0 ≤ i then (s.extract 0 i.toNat, s.extract (i + 1).toNat s.size, true) else (s, ⟨#[]⟩, false) := fun i h => by unfold cutF; rw [h]
  have HX : ∀ (w : World) i, Lib.indexByte s.data.toList 10 = i → Calls Tryd.prog 30 #[.string s, .string ⟨#[10]⟩] w fun e w' => e = .returned (.int .i64 i) ∧ w' = w := fun w i h => by rw [← h]; exact Tryd.stringslite_Index_one s 10 w
  generalize hx : Lib.indexByte s.data.toList 10 = i at hi
  replace HR := Aside0.mk (HR i hx)
  replace HX := Aside0.mk (fun w => HX w i hx)
  clear hx
  by_cases h0 : 0 ≤ i
  · have h1 : i < (s.size : Int) := by omega
    have hr : cutF s = (s.extract 0 i.toNat, s.extract (i + 1).toNat s.size, true) := by rw [HR.out, if_pos h0]
    rw [hr]
    have hb : decide (i ≥ 0) = true := decide_eq_true h0
    have hb' : decide (0 ≤ i) = true := decide_eq_true h0
    have hw : wrap64 (i + 1) = i + 1 := IntWalk.wrap64_in _ ⟨by omega, by omega⟩
    have hle : i ≤ (s.size : Int) := by omega
    have h3 : i + 1 ≤ (s.size : Int) := by omega
    have h4 : 0 ≤ i + 1 := by omega
    clear hr HR hi
    go_enter Tryd.func43, Tryd.ntmps43
    go_wp2_with fail
    refine (HX.out _).mono ?_
    rintro e w' ⟨rfl, rfl⟩
    go_wp2_with fail
    go_region
    all_goals (try go_wp2)
    all_goals go_ret3
    all_goals exact ⟨rfl, by repeat (first | exact Below.refl _ _ | apply pw_below_drewN | apply below_drew1)⟩
  · have hr : cutF s = (s, ⟨#[]⟩, false) := by rw [HR.out, if_neg h0]
    rw [hr]
    have hb : decide (i ≥ 0) = false := decide_eq_false h0
    have hb' : decide (0 ≤ i) = false := decide_eq_false h0
    clear hr HR
    go_enter Tryd.func43, Tryd.ntmps43
    go_wp2_with fail
    refine (HX.out _).mono ?_
    rintro e w' ⟨rfl, rfl⟩
    go_wp2_with fail
    go_ret3
    exact ⟨rfl, by repeat (first | exact Below.refl _ _ | apply pw_below_drewN | apply below_drew1)⟩
theorem cut_any (s : ByteArray) (w : World) (hs : s.size ≤ 140737488355328) :
    Calls Tryd.prog 33 #[.string s, .string ⟨#[10]⟩] w fun e w' => e = .returned (.tuple #[.string (cutF s).1, .string (cutF s).2.1, .bool (cutF s).2.2]) ∧ Below w.heap.size w w' := by
  have HS := Aside0.mk hs
  clear hs
  go_enter Tryd.func33, Tryd.ntmps33
  go_wp2_with fail
  refine (cut_in s _ HS.out).mono ?_
  rintro e w' ⟨rfl, hb⟩
  have HB := Aside0.mk hb
  clear hb
  go_wp2_with fail
  go_ret3
  exact ⟨rfl, HB.out⟩
end Go.Proofs.YtlbaejihlcfpeaaDoor.G
end
