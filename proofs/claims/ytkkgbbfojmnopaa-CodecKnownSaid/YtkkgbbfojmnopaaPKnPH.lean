import Derived.Test.YtkkgbbfojmnopaaPKnPG
import Derived.Test.YtkkgbbfojmnopaaPKnGx0
import Derived.Test.YtkkgbbfojmnopaaPKnE11
import Derived.Test.YtkkgbbfojmnopaaPKnGxF16
import Derived.Test.YtkkgbbfojmnopaaPKnGxF10
import Derived.Test.YtkkgbbfojmnopaaPKnGxF17
import Derived.Test.YtkkgbbfojmnopaaPKnGxF12
set_option linter.unusedVariables false
set_option linter.unusedSimpArgs false
section
namespace Go.Proofs.Ytkkgbbfojmnopaa.Z
open Go.RowKit Go.Proofs.Ytkkgbbfojmnopaa.G Go.Proofs.YtkkgbbfojmnopaaW.PrintWords Go.Proofs.YtkkgbbfojmnopaaW.PrintLast Go.Proofs.YtkkgbbfojmnopaaW.PrintMore
set_option linter.unusedVariables false
set_option linter.unusedSimpArgs false
def leastL (c : List S42) : List S47 := [⟨0, 1, [], c, [⟨0, 0, 0⟩, ⟨19, 0, 0⟩]⟩]
def leastB : List UInt8 := [1, 0, 1, 0, 0, 2, 0, 0, 0, 19, 0, 0]
theorem least_check : checkS (leastL []) = 0 := by decide +kernel
theorem least_enc : progE (leastL []) = leastB := by decide +kernel
theorem leastE : encS (leastL []) = (⟨leastB.toArray⟩, 0) := by
  unfold encS
  rw [least_check, if_pos rfl, least_enc, if_neg (by decide)]
theorem leastD : decS ⟨leastB.toArray⟩ = (leastL [], 0) := dec_yes (by decide +kernel) (by rw [least_enc]) least_check (by intro q hq c hc; simp only [leastL, List.mem_singleton] at hq; subst hq; cases hc)
theorem least_in : inP (leastL []) := by intro q hq c hc; simp only [leastL, List.mem_singleton] at hq; subst hq; cases hc
theorem least_same (c : List S42) (hc : c.length ≤ 140737488351232) : Ev (fun k => code_Same.f k (leastL c) (leastL c)) true :=
  Ev.eq (c_Same _ _ (by simp [leastL]) (by intro x hx; simp only [leastL, List.mem_singleton] at hx; subst hx; exact ⟨by simp, hc, by simp⟩)) (sameL_self _)
theorem works_ok : Ev (fun k => tallowlaw21_works.f k) true := by
  unfold tallowlaw21_works.f
  refine Ev.bind (f := fun k t => _) (a := leastL []) (Ev.now _) ?_
  refine Ev.bind (f := fun k t => _) (Ev.eq (enc_ok _ least_in) leastE) ?_
  refine Ev.bind (f := fun k t => _) (Ev.eq (dec_ok _) leastD) ?_
  refine Ev.congr (f := fun k => (code_Same.f k (leastL []) (leastL [])).bind fun t => some t) (fun k => ?_) (Ev.bind (f := fun _ t => some t) (least_same [] (by simp)) (Ev.now _))
  simp only [if_true]
  rw [if_pos (show (⟨leastB.toArray⟩ : ByteArray).toList = [1, 0, 1, 0, 0, 2, 0, 0, 0, 19, 0, 0] by rw [ByteArray.toList_eq]; rfl)]
  rfl
end Go.Proofs.Ytkkgbbfojmnopaa.Z
end
