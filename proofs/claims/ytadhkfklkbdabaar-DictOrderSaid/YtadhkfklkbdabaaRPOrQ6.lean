import Derived.Deep.RegionLaw
import Derived.Deep.Cut
import Derived.WalkSpells
import Derived.Maps.OwnOps
import Derived.Maps.OwnSet
import Derived.Maps.Views
import Derived.Maps.Own
import Derived.DeepKeys5
import Derived.Outline
import Derived.Deep.AppendLies
import Derived.Laws.CopyRow
import Derived.Laws.CopyOwn
import Derived.StillTailTactics
import Derived.Test.YtadhkfklkbdabaaRPOrQ3
set_option linter.unusedVariables false
set_option linter.unusedSimpArgs false
section
namespace Go.Proofs.YtadhkfklkbdabaaR.G
open Go.RowKit Go.Proofs.YtadhkfklkbdabaaRW.PrintWords Go.Proofs.YtadhkfklkbdabaaRW.PrintLast Go.Proofs.YtadhkfklkbdabaaRW.PrintMore
set_option linter.unusedVariables false
set_option linter.unusedSimpArgs false
def flatP : List (S24 × S24) → List S24
 | [] => []
 | x :: P => x.1 :: x.2 :: flatP P
theorem flatP_len : ∀ P : List (S24 × S24), (flatP P).length = 2 * P.length
 | [] => rfl
 | x :: P => by show (flatP P).length + 1 + 1 = 2 * (P.length + 1); rw [flatP_len P]; omega
theorem flatP_append : ∀ (P R : List (S24 × S24)), flatP (P ++ R) = flatP P ++ flatP R
 | [], R => rfl
 | x :: P, R => by show _ :: _ :: flatP (P ++ R) = _; rw [flatP_append P R]; rfl
def fIdx (k : S24) : List (S24 × S24) → Option Nat
 | [] => none
 | x :: P => if sameV x.1 k = true then some 0 else (fIdx k P).map (· + 1)
theorem idxP_flat (k : S24) : ∀ (P : List (S24 × S24)) (i : Nat), idxP k (flatP P) i = (fIdx k P).map (fun j => i + 2 * j)
 | [], i => rfl
 | x :: P, i => by
  show (if sameV x.1 k = true then some i else idxP k (flatP P) (i + 2)) = _
  unfold fIdx
  by_cases h : sameV x.1 k = true
  ·rw [if_pos h, if_pos h]; rfl
  ·rw [if_neg h, if_neg h, idxP_flat k P (i + 2), Option.map_map]
   congr 1
   funext j
   show i + 2 + 2 * j = i + 2 * (j + 1)
   omega
theorem fIdx_some {k : S24} : ∀ {P : List (S24 × S24)} {j : Nat}, fIdx k P = some j → ∃ A x B, P = A ++ x :: B ∧ A.length = j ∧ x.1 = k
 | [], j, h => by simp [fIdx] at h
 | x :: P, j, h => by
  unfold fIdx at h
  by_cases hs : sameV x.1 k = true
  ·rw [if_pos hs] at h
   injection h with h
   exact ⟨[], x, P, rfl, h, sameV_iff.1 hs⟩
  ·rw [if_neg hs] at h
   obtain ⟨i, hi, hj⟩ := Option.map_eq_some_iff.1 h
   obtain ⟨A, y, B, e, hl, hk⟩ := fIdx_some hi
   exact ⟨x :: A, y, B, by rw [e]; rfl, by rw [List.length_cons, hl]; exact hj, hk⟩
theorem fIdx_none {k : S24} : ∀ {P : List (S24 × S24)}, fIdx k P = none → ∀ y ∈ P, y.1 ≠ k
 | [], _, y, hy => by cases hy
 | x :: P, h, y, hy => by
  unfold fIdx at h
  by_cases hs : sameV x.1 k = true
  ·rw [if_pos hs] at h; cases h
  ·rw [if_neg hs] at h
   rcases List.mem_cons.1 hy with rfl | hy
   ·intro e; exact hs (sameV_iff.2 e)
   ·exact fIdx_none (Option.map_eq_none_iff.1 h) y hy
theorem rd_app {A B : List S24} {x : S24} : rd_T24 (A ++ x :: B) (A.length : Int) = x := by
 unfold rd_T24
 rw [Int.toNat_natCast, List.getD_eq_getElem?_getD, List.getElem?_append_right (Nat.le_refl _), Nat.sub_self]; rfl
theorem rd_flat0 {A B : List (S24 × S24)} {x : S24 × S24} : rd_T24 (flatP (A ++ x :: B)) ((2 * A.length : Nat) : Int) = x.1 := by
 rw [flatP_append, ← flatP_len]
 exact rd_app
theorem rd_flat1 {A B : List (S24 × S24)} {x : S24 × S24} : rd_T24 (flatP (A ++ x :: B)) (((2 * A.length : Nat) : Int) + 1) = x.2 := by
 rw [flatP_append, show flatP A ++ flatP (x :: B) = (flatP A ++ [x.1]) ++ x.2 :: flatP B by simp [flatP]]
 have := rd_app (A := flatP A ++ [x.1]) (B := flatP B) (x := x.2)
 rw [List.length_append, flatP_len, List.length_singleton] at this
 simpa using this
theorem set_app {α : Type} (A B : List α) (x y : α) : (A ++ x :: B).set A.length y = A ++ y :: B := by
 rw [List.set_append_right _ _ (Nat.le_refl _), Nat.sub_self]; rfl
theorem set_flat {A B : List (S24 × S24)} {x : S24 × S24} {v : S24} : (flatP (A ++ x :: B)).set (2 * A.length + 1) v = flatP (A ++ (x.1, v) :: B) := by
 rw [flatP_append, flatP_append, show flatP A ++ flatP (x :: B) = (flatP A ++ [x.1]) ++ x.2 :: flatP B by simp [flatP]]
 have := set_app (flatP A ++ [x.1]) (flatP B) x.2 v
 rw [List.length_append, flatP_len, List.length_singleton] at this
 rw [this]
 simp [flatP]
theorem takeP_flat (A B : List (S24 × S24)) (x : S24 × S24) : ∃ P', takeP (flatP (A ++ x :: B)) (2 * A.length) = flatP P' ∧ (A ++ x :: B).Perm (x :: P') := by
 have hl : (flatP (A ++ x :: B)).length = 2 * A.length + 2 * (B.length + 1) := by rw [flatP_len, List.length_append, List.length_cons]; omega
 rw [takeP_eq (by omega), hl]
 have e1 : (flatP (A ++ x :: B)).take (2 * A.length) = flatP A := by
  rw [flatP_append, ← flatP_len, List.take_left]
 have e2 : (flatP (A ++ x :: B)).drop (2 * A.length + 2) = flatP B := by
  rw [flatP_append, show flatP A ++ flatP (x :: B) = (flatP A ++ [x.1, x.2]) ++ flatP B by simp [flatP], show 2 * A.length + 2 = (flatP A ++ [x.1, x.2]).length by rw [List.length_append, flatP_len]; rfl, List.drop_left]
 rw [e1, e2]
 rcases List.eq_nil_or_concat B with rfl | ⟨B', y, rfl⟩
 ·refine ⟨A, ?_, List.perm_append_comm⟩
  rw [List.append_assoc, show 2 * A.length + 2 * (([] : List (S24 × S24)).length + 1) - 2 = (flatP A).length by rw [flatP_len]; rfl, List.take_left]
 ·rw [List.concat_eq_append] at *
  refine ⟨A ++ y :: B', ?_, ?_⟩
  ·have e3 : (flatP (A ++ x :: (B' ++ [y]))).drop (2 * A.length + 2 * ((B' ++ [y]).length + 1) - 2) = [y.1, y.2] := by
    rw [flatP_append, show flatP A ++ flatP (x :: (B' ++ [y])) = (flatP A ++ [x.1, x.2] ++ flatP B') ++ [y.1, y.2] by simp [flatP, flatP_append], show 2 * A.length + 2 * ((B' ++ [y]).length + 1) - 2 = (flatP A ++ [x.1, x.2] ++ flatP B').length by simp [flatP_len]; omega, List.drop_left]
   rw [e3, flatP_append, show flatP A ++ [y.1, y.2] ++ (flatP B' ++ flatP [y]) = (flatP A ++ [y.1, y.2] ++ flatP B') ++ flatP [y] by simp, show 2 * A.length + 2 * ((B' ++ [y]).length + 1) - 2 = (flatP A ++ [y.1, y.2] ++ flatP B').length by simp [flatP_len]; omega, List.take_left, flatP_append]
   simp [flatP]
  ·have h1 : (A ++ x :: (B' ++ [y])).Perm (x :: (A ++ (B' ++ [y]))) := List.perm_middle
   refine h1.trans (List.Perm.cons _ ?_)
   exact List.Perm.append_left A (List.perm_append_comm (l₁ := B') (l₂ := [y]))
end Go.Proofs.YtadhkfklkbdabaaR.G
end
