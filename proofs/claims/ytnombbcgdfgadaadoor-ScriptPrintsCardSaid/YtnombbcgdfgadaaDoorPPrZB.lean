import Derived.LaidMore
import Derived.LaidHandle
import Derived.Stop.Joined
import Derived.Lib.IfaceEq
import Derived.Lib.ItoaLen
import Derived.Shelf.Strings.MapGrows
import Derived.Shelf.Abstract
import Derived.LaidEql
import Derived.Stop.Asserts
import Derived.RowKitTokens
import Derived.Lib.LaidTab
import Derived.Lib.AppendIntMem
import Derived.Stop.LaidErr
import Derived.WalkKit
import Derived.Deep.RegionLaw
import Derived.Deep.Cut
import Derived.WalkSpells
import Derived.Test.YtnombbcgdfgadaaDoorPPrZA
import Derived.Lib.Hide
set_option linter.unusedVariables false
set_option linter.unusedSimpArgs false
section
namespace Go.Proofs.YtnombbcgdfgadaaDoor.G
open Go.Shelf Go.Extern.Stop Go.Stop Go.Extern Go.RowKit Go.Proofs.YtnombbcgdfgadaaDoorW.PrintWords Go.Proofs.YtnombbcgdfgadaaDoorW.PrintLast Go.Proofs.YtnombbcgdfgadaaDoorW.PrintMore
set_option linter.unusedVariables false
set_option linter.unusedSimpArgs false
theorem loop_all {α β : Type} {xs : List α} {ok : α → Bool} {bad r : β} {g : Nat → Int → Option β} {rest : Nat → Option β}
    (hstep : ∀ (k i : Nat) (h : i < xs.length), ok xs[i] = true → g (k + 1) i = g k ((i + 1 : Nat) : Int))
    (hbad : ∀ (k i : Nat) (h : i < xs.length), ok xs[i] = false → g (k + 1) i = some bad)
    (hend : ∀ k, g (k + 1) (xs.length : Int) = rest k) (hr : Ev rest r) : ∀ (d i : Nat), i + d = xs.length → Ev (fun k => g k i) (if (xs.drop i).all ok = true then r else bad)
  | 0, i, hi => by
    obtain rfl : i = xs.length := by omega
    rw [List.drop_length, List.all_nil, if_pos rfl]
    exact Ev.step (f := rest) hend hr
  | d + 1, i, hi => by
    have hlt : i < xs.length := by omega
    rw [List.drop_eq_getElem_cons hlt, List.all_cons]
    cases ho : ok xs[i] with
    | true =>
      rw [Bool.true_and]
      exact Ev.step (f := fun k => g k ((i + 1 : Nat) : Int)) (fun k => hstep k i hlt ho) (loop_all hstep hbad hend hr d (i + 1) (by omega))
    | false =>
      rw [Bool.false_and, if_neg (by decide)]
      exact Ev.step (f := fun _ => some bad) (fun k => hbad k i hlt ho) (Ev.now bad)
theorem loop_from {α β : Type} {xs : List α} {ok : α → Bool} {bad r : β} {g : Nat → Int → Option β} {rest : Nat → Option β}
    (hstep : ∀ (k i : Nat) (h : i < xs.length), ok xs[i] = true → g (k + 1) i = g k ((i + 1 : Nat) : Int))
    (hbad : ∀ (k i : Nat) (h : i < xs.length), ok xs[i] = false → g (k + 1) i = some bad)
    (hend : ∀ k, g (k + 1) (xs.length : Int) = rest k) (hr : Ev rest r) : Ev (fun k => g k 0) (if xs.all ok = true then r else bad) := by
  have := loop_all hstep hbad hend hr xs.length 0 (by omega)
  rwa [List.drop_zero] at this
theorem loop_stop {α β : Type} {xs : List α} {ok : α → Bool} {bad : β} {g : Nat → Int → Option β}
    (hstep : ∀ (k i : Nat) (h : i < xs.length), ok xs[i] = true → g (k + 1) i = g k ((i + 1 : Nat) : Int))
    (hbad : ∀ (k i : Nat) (h : i < xs.length), ok xs[i] = false → g (k + 1) i = some bad) : ∀ (d i : Nat), i + d = xs.length → (xs.drop i).all ok = false → Ev (fun k => g k i) bad
  | 0, i, hi, ha => by
    obtain rfl : i = xs.length := by omega
    rw [List.drop_length, List.all_nil] at ha; cases ha
  | d + 1, i, hi, ha => by
    have hlt : i < xs.length := by omega
    rw [List.drop_eq_getElem_cons hlt, List.all_cons] at ha
    cases ho : ok xs[i] with
    | true =>
      rw [ho, Bool.true_and] at ha
      exact Ev.step (f := fun k => g k ((i + 1 : Nat) : Int)) (fun k => hstep k i hlt ho) (loop_stop hstep hbad d (i + 1) (by omega) ha)
    | false => exact Ev.step (f := fun _ => some bad) (fun k => hbad k i hlt ho) (Ev.now bad)
end Go.Proofs.YtnombbcgdfgadaaDoor.G
end
