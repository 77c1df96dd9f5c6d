import Derived.Deep.RegionLaw
import Derived.Deep.Cut
import Derived.WalkSpells
import Derived.Maps.OwnOps
import Derived.Maps.OwnSet
import Derived.Maps.Views
import Derived.Maps.Own
import Derived.DeepKeys5
import Derived.Outline
import Derived.Deep.AppendLies
import Derived.Laws.CopyRow
import Derived.Laws.CopyOwn
import Derived.StillTailTactics
import Derived.Test.YtadhkfklkbdabaaRPPuQ9
set_option linter.unusedVariables false
set_option linter.unusedSimpArgs false
section
namespace Go.Proofs.YtadhkfklkbdabaaR.G
open Go.RowKit Go.Proofs.YtadhkfklkbdabaaRW.PrintWords Go.Proofs.YtadhkfklkbdabaaRW.PrintLast Go.Proofs.YtadhkfklkbdabaaRW.PrintMore
set_option linter.unusedVariables false
set_option linter.unusedSimpArgs false
structure AllV (a : List S24) (P : List (S24 × S24)) : Prop where
 av : ∀ x ∈ a, inV x = true
 pv : ∀ x ∈ P, inV x.1 = true ∧ inV x.2 = true
theorem sem_in {a : List S24} {P : List (S24 × S24)} (h : AllV a P) (k : S24) : inV (sem a P k) = true := by
 unfold sem
 by_cases hp : placedB k a.length = true
 ·obtain ⟨q1, q2, q3⟩ := placed_iff.1 hp
  rw [if_pos hp, rd_idx (by omega)]
  exact h.av _ (rd_mem (by omega))
 ·rw [if_neg hp]
  by_cases hm : ∃ y ∈ P, y.1 = k
  ·have key : ∀ R : List (S24 × S24), (∀ y ∈ R, inV y.2 = true) → inV (asc R k) = true := by
    intro R
    induction R with
    | nil => intro _; show inV ⟨1, 0⟩ = true; decide
    | cons y R ih =>
     intro hR
     show inV (if sameV y.1 k = true then y.2 else asc R k) = true
     by_cases hs : sameV y.1 k = true
     ·rw [if_pos hs]; exact hR y List.mem_cons_self
     ·rw [if_neg hs]; exact ih fun z hz => hR z (List.mem_cons_of_mem _ hz)
   exact key P fun y hy => (h.pv y hy).2
  ·rw [asc_no (fun y hy e => hm ⟨y, hy, e⟩)]; decide
theorem inV_small {n : Int} (h0 : 0 ≤ n) (h1 : n ≤ 1000000) : inV ⟨3, n⟩ = true := by
 unfold inV inR
 rw [show (Lit.int .i64 (⟨3, n⟩ : S24).f0).wf = true by (show (Lit.int .i64 3).wf = true; decide), show (Lit.int .i64 (⟨3, n⟩ : S24).f1).wf = true from inR_small h0 h1]; rfl
theorem put_in {a a' : List S24} {P P' : List (S24 × S24)} {k v : S24} {g : List S24} (h : AllV a P) (hk : inV k = true) (hv : inV v = true) (hp : PutOk a P k v a' P' g) (hl : a.length ≤ 100000) (hl' : a'.length ≤ 100000) : AllV a' P' := by
 have hs : ∀ k', inV (sem a' P' k') = true := fun k' => by
  rw [hp.sm k']
  by_cases e : sameV k' k = true
  ·rw [if_pos e]; exact hv
  ·rw [if_neg e]; exact sem_in h k'
 refine ⟨fun x hx => ?_, fun x hx => ?_⟩
 ·obtain ⟨i, hi, e⟩ := List.getElem_of_mem hx
  have := hs ⟨3, (i : Int) + 1⟩
  unfold sem at this
  rw [if_pos (placed_iff.2 ⟨rfl, by show 1 ≤ (i : Int) + 1; omega, by show (i : Int) + 1 ≤ _; omega⟩), show (⟨3, (i : Int) + 1⟩ : S24).f1 - 1 = (i : Int) by show (i : Int) + 1 - 1 = _; omega, rdN hi, e] at this
  exact this
 ·obtain ⟨g1, g2, g3, g4⟩ := hp.tok.tw.gp x hx
  have h1 : sem a' P' x.1 = x.2 := by rw [sem_not (by rw [g4]; decide)]; exact asc_mem hp.tok.tw.nd hx
  refine ⟨?_, by rw [← h1]; exact hs x.1⟩
  by_cases e : x.1 = k
  ·rw [e]; exact hk
  ·have h2 := hp.sm x.1
   rw [if_neg (fun e2 => e (sameV_iff.1 e2)), h1] at h2
   by_cases hpl : placedB x.1 a.length = true
   ·obtain ⟨q1, q2, q3⟩ := placed_iff.1 hpl
    rw [show x.1 = ⟨3, x.1.f1⟩ from s24_eq q1 rfl]
    exact inV_small (by omega) (by omega)
   ·rw [sem_not hpl] at h2
    by_cases hm : ∃ y ∈ P, y.1 = x.1
    ·obtain ⟨y, hy, e3⟩ := hm
     rw [← e3]; exact (h.pv y hy).1
    ·rw [asc_no (fun y hy e3 => hm ⟨y, hy, e3⟩)] at h2
     rw [h2] at g3; cases g3
end Go.Proofs.YtadhkfklkbdabaaR.G
end
