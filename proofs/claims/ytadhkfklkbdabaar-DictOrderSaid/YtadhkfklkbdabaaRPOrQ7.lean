import Derived.Deep.RegionLaw
import Derived.Deep.Cut
import Derived.WalkSpells
import Derived.Maps.OwnOps
import Derived.Maps.OwnSet
import Derived.Maps.Views
import Derived.Maps.Own
import Derived.DeepKeys5
import Derived.Outline
import Derived.Deep.AppendLies
import Derived.Laws.CopyRow
import Derived.Laws.CopyOwn
import Derived.StillTailTactics
import Derived.Test.YtadhkfklkbdabaaRPOrQ6
set_option linter.unusedVariables false
set_option linter.unusedSimpArgs false
section
namespace Go.Proofs.YtadhkfklkbdabaaR.G
open Go.RowKit Go.Proofs.YtadhkfklkbdabaaRW.PrintWords Go.Proofs.YtadhkfklkbdabaaRW.PrintLast Go.Proofs.YtadhkfklkbdabaaRW.PrintMore
set_option linter.unusedVariables false
set_option linter.unusedSimpArgs false
theorem null_eq {v : S24} (h : nullB v = true) : v = ⟨1, 0⟩ := by
 unfold nullB at h
 simp only [Bool.and_eq_true, beq_iff_eq] at h
 obtain ⟨h1, h2⟩ := h
 cases v
 simp only at h1 h2
 rw [h1, h2]
theorem placed_iff {k : S24} {n : Int} : placedB k n = true ↔ k.f0 = 3 ∧ 1 ≤ k.f1 ∧ k.f1 ≤ n := by
 unfold placedB
 simp only [Bool.and_eq_true, beq_iff_eq, decide_eq_true_eq]
theorem placed_no {k : S24} {n : Int} (h : placedB k n = false) : ¬ (k.f0 = 3 ∧ 1 ≤ k.f1 ∧ k.f1 ≤ n) := fun h2 => by
 rw [placed_iff.2 h2] at h; cases h
theorem placed_not {k : S24} {n : Int} (h : ¬ (k.f0 = 3 ∧ 1 ≤ k.f1 ∧ k.f1 ≤ n)) : placedB k n = false := by
 cases hp : placedB k n with
 | false => rfl
 | true => exact (h (placed_iff.1 hp)).elim
theorem placed_le {k : S24} {m n : Int} (hmn : m ≤ n) (h : placedB k n = false) : placedB k m = false := placed_not fun h2 => placed_no h ⟨h2.1, h2.2.1, by omega⟩
theorem s24_eq {a b : S24} (h0 : a.f0 = b.f0) (h1 : a.f1 = b.f1) : a = b := by
 cases a; cases b; simp only at h0 h1; rw [h0, h1]
def asc : List (S24 × S24) → S24 → S24
 | [], _ => ⟨1, 0⟩
 | x :: P, k => if sameV x.1 k = true then x.2 else asc P k
theorem asc_no {k : S24} : ∀ {P : List (S24 × S24)}, (∀ y ∈ P, y.1 ≠ k) → asc P k = ⟨1, 0⟩
 | [], _ => rfl
 | x :: P, h => by
  unfold asc
  rw [if_neg (fun e => h x (List.mem_cons_self) (sameV_iff.1 e))]
  exact asc_no fun y hy => h y (List.mem_cons_of_mem _ hy)
theorem asc_mem {k v : S24} : ∀ {P : List (S24 × S24)}, (P.map (·.1)).Nodup → (k, v) ∈ P → asc P k = v
 | [], _, h => by cases h
 | x :: P, hn, h => by
  rw [List.map_cons, List.nodup_cons] at hn
  unfold asc
  rcases List.mem_cons.1 h with e | h
  ·rw [← e, if_pos (sameV_iff.2 rfl)]
  ·by_cases hs : sameV x.1 k = true
   ·exfalso
    exact hn.1 (by rw [sameV_iff.1 hs]; exact List.mem_map.2 ⟨(k, v), h, rfl⟩)
   ·rw [if_neg hs]; exact asc_mem hn.2 h
theorem asc_perm {P R : List (S24 × S24)} (hp : P.Perm R) (hn : (P.map (·.1)).Nodup) (k : S24) : asc P k = asc R k := by
 have hn2 : (R.map (·.1)).Nodup := (hp.map (·.1)).nodup_iff.1 hn
 by_cases h : ∃ v, (k, v) ∈ P
 ·obtain ⟨v, hv⟩ := h
  rw [asc_mem hn hv, asc_mem hn2 (hp.mem_iff.1 hv)]
 ·have h1 : ∀ y ∈ P, y.1 ≠ k := fun y hy e => h ⟨y.2, by rw [← e]; exact hy⟩
  rw [asc_no h1, asc_no (fun y hy => h1 y (hp.mem_iff.2 hy))]
def sem (a : List S24) (P : List (S24 × S24)) (k : S24) : S24 := if placedB k a.length = true then rd_T24 a (k.f1 - 1) else asc P k
structure TW (a : List S24) (P : List (S24 × S24)) : Prop where
 ga : ∀ x ∈ a, goodB x = true
 gp : ∀ x ∈ P, keyB x.1 = true ∧ goodB x.2 = true ∧ nullB x.2 = false ∧ placedB x.1 a.length = false
 nd : (P.map (·.1)).Nodup
 la : ∀ n, a.length = n + 1 → nullB (rd_T24 a (n : Int)) = false
structure TOk (a : List S24) (P : List (S24 × S24)) : Prop where
 tw : TW a P
 nx : ∀ x ∈ P, placedB x.1 (a.length + 1) = false
def wA (W : S24 → Nat) : List S24 → Nat
 | [] => 0
 | x :: l => W x + wA W l
def wP (W : S24 → Nat) : List (S24 × S24) → Nat
 | [] => 0
 | x :: P => W x.1 + W x.2 + wP W P
theorem wA_append (W : S24 → Nat) : ∀ (l m : List S24), wA W (l ++ m) = wA W l + wA W m
 | [], m => (Nat.zero_add _).symm
 | x :: l, m => by show W x + wA W (l ++ m) = W x + wA W l + wA W m; rw [wA_append W l m]; omega
theorem wP_perm (W : S24 → Nat) {P R : List (S24 × S24)} (h : P.Perm R) : wP W P = wP W R := by
 induction h with
 | nil => rfl
 | cons x _ ih => show _ + _ = _ + _; rw [ih]
 | swap x y l => show W y.1 + W y.2 + (W x.1 + W x.2 + wP W l) = W x.1 + W x.2 + (W y.1 + W y.2 + wP W l); omega
 | trans _ _ ih1 ih2 => rw [ih1, ih2]
theorem wP_append (W : S24 → Nat) : ∀ (l m : List (S24 × S24)), wP W (l ++ m) = wP W l + wP W m
 | [], m => (Nat.zero_add _).symm
 | x :: l, m => by show W x.1 + W x.2 + wP W (l ++ m) = W x.1 + W x.2 + wP W l + wP W m; rw [wP_append W l m]; omega
theorem wA_refs {W : S24 → Nat} (hW : ∀ x, refB x = false → W x = 0) : ∀ l : List S24, wA W (refsL l) = wA W l
 | [] => rfl
 | x :: l => by
  rw [refsL_snoc]
  cases h : refB x with
  | true => rw [if_pos rfl]; show W x + _ = W x + _; rw [wA_refs hW l]
  | false => rw [if_neg (by decide)]; show _ = W x + _; rw [hW x h, wA_refs hW l]; omega
theorem ref_null : refB ⟨1, 0⟩ = false := by decide
theorem ref_int {k : S24} (h : k.f0 = 3) : refB k = false := by unfold refB; rw [h]; rfl
theorem wA_nulls {W : S24 → Nat} (hW : ∀ x, refB x = false → W x = 0) : ∀ r : List S24, (∀ x ∈ r, nullB x = true) → wA W r = 0
 | [], _ => rfl
 | x :: r, h => by
  show W x + wA W r = 0
  rw [wA_nulls hW r (fun y hy => h y (List.mem_cons_of_mem _ hy)), null_eq (h x List.mem_cons_self), hW _ ref_null]
theorem rd_lt {l : List S24} {i : Nat} (h : i < l.length) : ∃ A B, l = A ++ rd_T24 l (i : Int) :: B ∧ A.length = i := by
 refine ⟨l.take i, l.drop (i + 1), ?_, by rw [List.length_take]; omega⟩
 rw [← drop_rd h, List.take_append_drop]
theorem rd_set {l : List S24} {i : Nat} (v : S24) (h : i < l.length) (j : Nat) : rd_T24 (l.set i v) (j : Int) = if i = j then v else rd_T24 l (j : Int) := by
 unfold rd_T24
 rw [Int.toNat_natCast, List.getD_eq_getElem?_getD, List.getD_eq_getElem?_getD, List.getElem?_set]
 by_cases e : i = j
 ·subst e; rw [if_pos rfl, if_pos rfl, if_pos h]; rfl
 ·rw [if_neg e, if_neg e]
theorem rd_left {l r : List S24} {j : Nat} (h : j < l.length) : rd_T24 (l ++ r) (j : Int) = rd_T24 l (j : Int) := by
 rw [rdN h, rdN (by rw [List.length_append]; omega), List.getElem_append_left h]
theorem rd_mem {l : List S24} {j : Nat} (h : j < l.length) : rd_T24 l (j : Int) ∈ l := by rw [rdN h]; exact List.getElem_mem h
theorem rd_right {l r : List S24} {j : Nat} (h : l.length ≤ j) (h2 : j < (l ++ r).length) : rd_T24 (l ++ r) (j : Int) ∈ r := by
 rw [rdN h2, List.getElem_append_right h]; exact List.getElem_mem _
theorem trim_split : ∀ (n : Nat) (l : List S24), l.length = n → ∃ r, l = trimN l ++ r ∧ (∀ x ∈ r, nullB x = true) ∧ (∀ m, (trimN l).length = m + 1 → nullB (rd_T24 (trimN l) (m : Int)) = false)
 | 0, l, h => by
  obtain rfl := List.eq_nil_of_length_eq_zero h
  exact ⟨[], rfl, fun x hx => by (cases hx), fun m hm => by (cases hm)⟩
 | n + 1, l, h => by
  rcases List.eq_nil_or_concat l with rfl | ⟨b, y, rfl⟩
  ·simp at h
  ·rw [List.concat_eq_append] at *
   rw [List.length_append, List.length_singleton] at h
   rw [trimN_snoc]
   by_cases hy : nullB y = true
   ·rw [if_pos hy]
    obtain ⟨r, h1, h2, h3⟩ := trim_split n b (by omega)
    refine ⟨r ++ [y], by rw [← List.append_assoc, ← h1], fun x hx => ?_, h3⟩
    rcases List.mem_append.1 hx with hx | hx
    ·exact h2 x hx
    ·rw [List.mem_singleton.1 hx]; exact hy
   ·rw [if_neg hy]
    refine ⟨[], (List.append_nil _).symm, fun x hx => by (cases hx), fun m hm => ?_⟩
    rw [List.length_append, List.length_singleton] at hm
    obtain rfl : m = b.length := by omega
    rw [rd_app]; simpa using hy
end Go.Proofs.YtadhkfklkbdabaaR.G
end
