import Derived.Deep.RegionLaw
import Derived.Deep.Cut
import Derived.WalkSpells
import Derived.Maps.OwnOps
import Derived.Maps.OwnSet
import Derived.Maps.Views
import Derived.Maps.Own
import Derived.DeepKeys5
import Derived.Outline
import Derived.Deep.AppendLies
import Derived.Laws.CopyRow
import Derived.Laws.CopyOwn
import Derived.StillTailTactics
import Derived.Test.YtadhkfklkbdabaaRPPuQ3
set_option linter.unusedVariables false
set_option linter.unusedSimpArgs false
section
namespace Go.Proofs.YtadhkfklkbdabaaR.G
open Go.RowKit Go.Proofs.YtadhkfklkbdabaaRW.PrintWords Go.Proofs.YtadhkfklkbdabaaRW.PrintLast Go.Proofs.YtadhkfklkbdabaaRW.PrintMore
set_option linter.unusedVariables false
set_option linter.unusedSimpArgs false
theorem placed_iff {k : S24} {n : Int} : placedB k n = true ↔ k.f0 = 3 ∧ 1 ≤ k.f1 ∧ k.f1 ≤ n := by
 unfold placedB
 simp only [Bool.and_eq_true, beq_iff_eq, decide_eq_true_eq]
theorem placed_no {k : S24} {n : Int} (h : placedB k n = false) : ¬ (k.f0 = 3 ∧ 1 ≤ k.f1 ∧ k.f1 ≤ n) := fun h2 => by
 rw [placed_iff.2 h2] at h; cases h
theorem placed_not {k : S24} {n : Int} (h : ¬ (k.f0 = 3 ∧ 1 ≤ k.f1 ∧ k.f1 ≤ n)) : placedB k n = false := by
 cases hp : placedB k n with
 | false => rfl
 | true => exact (h (placed_iff.1 hp)).elim
theorem s24_eq {a b : S24} (h0 : a.f0 = b.f0) (h1 : a.f1 = b.f1) : a = b := by
 cases a; cases b; simp only at h0 h1; rw [h0, h1]
def asc : List (S24 × S24) → S24 → S24
 | [], _ => ⟨1, 0⟩
 | x :: P, k => if sameV x.1 k = true then x.2 else asc P k
theorem asc_no {k : S24} : ∀ {P : List (S24 × S24)}, (∀ y ∈ P, y.1 ≠ k) → asc P k = ⟨1, 0⟩
 | [], _ => rfl
 | x :: P, h => by
  unfold asc
  rw [if_neg (fun e => h x (List.mem_cons_self) (sameV_iff.1 e))]
  exact asc_no fun y hy => h y (List.mem_cons_of_mem _ hy)
theorem asc_mem {k v : S24} : ∀ {P : List (S24 × S24)}, (P.map (·.1)).Nodup → (k, v) ∈ P → asc P k = v
 | [], _, h => by cases h
 | x :: P, hn, h => by
  rw [List.map_cons, List.nodup_cons] at hn
  unfold asc
  rcases List.mem_cons.1 h with e | h
  ·rw [← e, if_pos (sameV_iff.2 rfl)]
  ·by_cases hs : sameV x.1 k = true
   ·exfalso
    exact hn.1 (by rw [sameV_iff.1 hs]; exact List.mem_map.2 ⟨(k, v), h, rfl⟩)
   ·rw [if_neg hs]; exact asc_mem hn.2 h
def sem (a : List S24) (P : List (S24 × S24)) (k : S24) : S24 := if placedB k a.length = true then rd_T24 a (k.f1 - 1) else asc P k
structure TW (a : List S24) (P : List (S24 × S24)) : Prop where
 ga : ∀ x ∈ a, goodB x = true
 gp : ∀ x ∈ P, keyB x.1 = true ∧ goodB x.2 = true ∧ nullB x.2 = false ∧ placedB x.1 a.length = false
 nd : (P.map (·.1)).Nodup
 la : ∀ n, a.length = n + 1 → nullB (rd_T24 a (n : Int)) = false
structure TOk (a : List S24) (P : List (S24 × S24)) : Prop where
 tw : TW a P
 nx : ∀ x ∈ P, placedB x.1 (a.length + 1) = false
def wA (W : S24 → Nat) : List S24 → Nat
 | [] => 0
 | x :: l => W x + wA W l
def wP (W : S24 → Nat) : List (S24 × S24) → Nat
 | [] => 0
 | x :: P => W x.1 + W x.2 + wP W P
theorem wA_append (W : S24 → Nat) : ∀ (l m : List S24), wA W (l ++ m) = wA W l + wA W m
 | [], m => (Nat.zero_add _).symm
 | x :: l, m => by show W x + wA W (l ++ m) = W x + wA W l + wA W m; rw [wA_append W l m]; omega
theorem rd_left {l r : List S24} {j : Nat} (h : j < l.length) : rd_T24 (l ++ r) (j : Int) = rd_T24 l (j : Int) := by
 rw [rdN h, rdN (by rw [List.length_append]; omega), List.getElem_append_left h]
theorem rd_mem {l : List S24} {j : Nat} (h : j < l.length) : rd_T24 l (j : Int) ∈ l := by rw [rdN h]; exact List.getElem_mem h
end Go.Proofs.YtadhkfklkbdabaaR.G
end
