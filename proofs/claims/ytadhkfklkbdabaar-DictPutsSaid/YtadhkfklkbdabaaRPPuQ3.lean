import Derived.Deep.RegionLaw
import Derived.Deep.Cut
import Derived.WalkSpells
import Derived.Maps.OwnOps
import Derived.Maps.OwnSet
import Derived.Maps.Views
import Derived.Maps.Own
import Derived.DeepKeys5
import Derived.Outline
import Derived.Deep.AppendLies
import Derived.Laws.CopyRow
import Derived.Laws.CopyOwn
import Derived.StillTailTactics
import Derived.Test.YtadhkfklkbdabaaRPPuQ2
import Derived.Test.YtadhkfklkbdabaaRPPuGx0
import Derived.Test.YtadhkfklkbdabaaRPPuGxE24
import Derived.Test.YtadhkfklkbdabaaRPPuGxF9
import Derived.Test.YtadhkfklkbdabaaRPPuGxF20
import Derived.Test.YtadhkfklkbdabaaRPPuGxF12
import Derived.Test.YtadhkfklkbdabaaRPPuGxF14
import Derived.Test.YtadhkfklkbdabaaRPPuGxF22
import Derived.Test.YtadhkfklkbdabaaRPPuGxF13
import Derived.Test.YtadhkfklkbdabaaRPPuD18
import Derived.Test.YtadhkfklkbdabaaRPPuGxF41
import Derived.Test.YtadhkfklkbdabaaRPPuGxF44
import Derived.Test.YtadhkfklkbdabaaRPPuGxF45
set_option linter.unusedVariables false
set_option linter.unusedSimpArgs false
section
namespace Go.Proofs.YtadhkfklkbdabaaR.G
open Go.RowKit Go.Proofs.YtadhkfklkbdabaaRW.PrintWords Go.Proofs.YtadhkfklkbdabaaRW.PrintLast Go.Proofs.YtadhkfklkbdabaaRW.PrintMore
set_option linter.unusedVariables false
set_option linter.unusedSimpArgs false
theorem own_eq (l : List S24) : tallowlaw09_own.f l = some (l.take 60) := by
 unfold tallowlaw09_own.f
 have h : (mn (l.length : Int) 60) = ((min l.length 60 : Nat) : Int) := by unfold mn; split <;> omega
 rw [h, if_pos (by omega), if_pos (by omega), Option.bind_some, Int.toNat_natCast, if_pos (by rw [List.length_take]; simp; omega)]
 rw [List.nil_append]
 congr 1
 rw [List.take_eq_take_iff]
 omega
theorem evalues (l : List S24) (hl : l.length ≤ 100000) : Ev (fun f => tallowref02_Values.f f l l) true := by
 unfold tallowref02_Values.f
 refine Ev.pos rfl ?_
 have key : ∀ (m i : Nat), l.length = i + m → Ev (fun f => tallowref02_Values.l0 f l l (i : Int)) true := by
  intro m
  induction m with
  | zero =>
   intro i h
   refine Ev.step (fun f => ?_) (Ev.pure _)
   rw [tallowref02_Values.l0, if_neg (by omega)]
  | succ m ih =>
   intro i h
   refine Ev.step (fun f => ?_) (ih (i + 1) (by omega))
   rw [tallowref02_Values.l0, if_pos (by omega), if_pos (by omega), if_pos (by omega), if_neg (by simp), wrapN (by omega) (by omega)]; rfl
 exact key l.length 0 (by omega)
theorem works_k : tallowlaw09_works.f 20 = some true := by decide +kernel
theorem eworks : Ev (fun f => tallowlaw09_works.f f) true := Ev.up (fun k => tallowlaw09_works.mono k) works_k
theorem arrN_int {l : List S24} (h : headB l = true) : (arrN l : Int) = (rd_T24 l 1).f1 ∧ 2 + arrN l ≤ l.length ∧ (arrS l).length = arrN l ∧ (prsS l).length = l.length - (2 + arrN l) := by
 have h1 := len_arr h
 unfold headB at h
 simp only [Bool.and_eq_true, decide_eq_true_eq, beq_iff_eq] at h
 obtain ⟨g0, g1, g2, g3⟩ := h
 unfold arrN at h1 ⊢
 refine ⟨by omega, by omega, h1, ?_⟩
 unfold prsS arrN
 rw [List.length_drop]
theorem okS_even2 {l : List S24} (h : okS l = true) : (prsS l).length % 2 = 0 := by
 unfold okS at h
 simp only [Bool.and_eq_true, beq_iff_eq] at h
 exact h.2.2.2.1
theorem inV_take {l : List S24} (h : ∀ x ∈ l, inV x = true) (n : Nat) : (l.take n).all inV = true := List.all_eq_true.2 fun x hx => h x (List.mem_of_mem_take hx)
theorem pre_take {l : List S24} {b : Bool} (h : ∀ x ∈ l, inV x = true) (hb : b = true) : preB (l.take 60) b = true := by
 unfold preB
 rw [inV_take h, hb, decide_eq_true (by rw [List.length_take]; omega)]; rfl
theorem okV {l : List S24} (ok : ∀ y ∈ l, (Lit.int .i64 y.f0).wf = true ∧ (Lit.int .i64 y.f1).wf = true) : ∀ x ∈ l, inV x = true := fun x hx => by
 obtain ⟨h1, h2⟩ := ok x hx
 unfold inV inR
 rw [h1, h2]; rfl
end Go.Proofs.YtadhkfklkbdabaaR.G
end
