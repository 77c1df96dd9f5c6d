import Derived.Deep.RegionLaw
import Derived.Deep.Cut
import Derived.WalkSpells
import Derived.Maps.OwnOps
import Derived.Maps.OwnSet
import Derived.Maps.Views
import Derived.Maps.Own
import Derived.DeepKeys5
import Derived.Outline
import Derived.Deep.AppendLies
import Derived.Laws.CopyRow
import Derived.Laws.CopyOwn
import Derived.StillTailTactics
import Derived.Test.YtadhkfklkbdabaaRPOrQ7
set_option linter.unusedVariables false
set_option linter.unusedSimpArgs false
section
namespace Go.Proofs.YtadhkfklkbdabaaR.G
open Go.RowKit Go.Proofs.YtadhkfklkbdabaaRW.PrintWords Go.Proofs.YtadhkfklkbdabaaRW.PrintLast Go.Proofs.YtadhkfklkbdabaaRW.PrintMore
set_option linter.unusedVariables false
set_option linter.unusedSimpArgs false
structure PutOk (a : List S24) (P : List (S24 × S24)) (k v : S24) (a' : List S24) (P' : List (S24 × S24)) (g : List S24) : Prop where
 tok : TOk a' P'
 sm : ∀ k', sem a' P' k' = if sameV k' k = true then v else sem a P k'
 wt : ∀ W : S24 → Nat, (∀ x, refB x = false → W x = 0) → W k + W v + wA W a + wP W P = wA W a' + wP W P' + wA W g
 gone : k.f0 = 3 → g = refsL [sem a P k]
theorem rd_idx {l : List S24} {x : Int} (h0 : 0 ≤ x) : rd_T24 l x = rd_T24 l ((x.toNat : Nat) : Int) := by rw [Int.toNat_of_nonneg h0]
theorem wA_set (W : S24 → Nat) {l : List S24} {i : Nat} (v : S24) (h : i < l.length) : wA W (l.set i v) + W (rd_T24 l (i : Int)) = wA W l + W v := by
 obtain ⟨A, B, e, hl⟩ := rd_lt h
 obtain ⟨x, hx⟩ : ∃ x, rd_T24 l (i : Int) = x := ⟨_, rfl⟩
 rw [hx] at e ⊢
 rw [e, ← hl, set_app, wA_append, wA_append]
 show wA W A + (W v + wA W B) + W x = wA W A + (W x + wA W B) + W v
 omega
theorem lay_split {a : List S24} {i : Nat} {v : S24} (hi : i < a.length) (hla : ∀ n, a.length = n + 1 → nullB (rd_T24 a (n : Int)) = false) :
  ∃ r, a.set i v = layS a i v ++ r ∧ (∀ x ∈ r, nullB x = true) ∧ (∀ m, (layS a i v).length = m + 1 → nullB (rd_T24 (layS a i v) (m : Int)) = false) := by
 unfold layS
 by_cases h : i + 1 < a.length
 ·rw [if_pos h]
  refine ⟨[], (List.append_nil _).symm, fun x hx => by (cases hx), fun m hm => ?_⟩
  rw [List.length_set] at hm
  rw [rd_set v hi, if_neg (by omega)]
  exact hla m hm
 ·rw [if_neg h]
  exact trim_split _ _ rfl
theorem put_placed {a : List S24} {P : List (S24 × S24)} {k v : S24} (h : TOk a P) (hv : goodB v = true) (hp : placedB k a.length = true) : PutOk a P k v (layS a (k.f1 - 1).toNat v) P (refsL [rd_T24 a (k.f1 - 1)]) := by
 obtain ⟨p1, p2, p3⟩ := placed_iff.1 hp
 obtain ⟨i, hi⟩ : ∃ i : Nat, k.f1 = (i : Int) + 1 := ⟨(k.f1 - 1).toNat, by omega⟩
 have hil : i < a.length := by omega
 rw [show (k.f1 - 1).toNat = i by omega, show k.f1 - 1 = (i : Int) by omega]
 obtain ⟨r, hr, hnull, hlast⟩ := lay_split (v := v) hil h.tw.la
 obtain ⟨L, hL⟩ : ∃ L, L = layS a i v := ⟨_, rfl⟩
 rw [← hL] at hr hlast ⊢
 have hlen : L.length + r.length = a.length := by rw [← List.length_append, ← hr, List.length_set]
 have hmem : ∀ x ∈ L, x ∈ a.set i v := fun x hx => by rw [hr]; exact List.mem_append_left _ hx
 have hsem : ∀ k', sem L P k' = if sameV k' k = true then v else sem a P k' := by
  intro k'
  unfold sem
  by_cases hp' : placedB k' a.length = true
  ·obtain ⟨q1, q2, q3⟩ := placed_iff.1 hp'
   obtain ⟨j, hj⟩ : ∃ j : Nat, k'.f1 = (j : Int) + 1 := ⟨(k'.f1 - 1).toNat, by omega⟩
   have hjl : j < a.length := by omega
   have hsame : sameV k' k = true ↔ i = j := by
    rw [sameV_iff]
    constructor
    ·rintro rfl; omega
    ·intro e; exact s24_eq (by omega) (by omega)
   have hset : rd_T24 (a.set i v) (j : Int) = if sameV k' k = true then v else rd_T24 a (j : Int) := by
    rw [rd_set v hil]
    by_cases e : i = j
    ·rw [if_pos e, if_pos (hsame.2 e)]
    ·rw [if_neg e, if_neg (fun x => e (hsame.1 x))]
   rw [if_pos hp', show k'.f1 - 1 = (j : Int) by omega]
   by_cases hjL : j < L.length
   ·rw [if_pos (placed_iff.2 ⟨q1, q2, by omega⟩), ← hset, hr, rd_left hjL]
   ·rw [if_neg (by rw [placed_not (fun x => hjL (by omega))]; decide), asc_no (fun y hy e => placed_no (h.tw.gp y hy).2.2.2 (by rw [e]; exact ⟨q1, q2, q3⟩)), ← hset]
    have hm := rd_right (l := L) (r := r) (j := j) (by omega) (by rw [← hr, List.length_set]; exact hjl)
    rw [← hr] at hm
    exact (null_eq (hnull _ hm)).symm
  ·have hn : sameV k' k = false := by
    cases hs : sameV k' k with
    | false => rfl
    | true => rw [sameV_iff.1 hs] at hp'; exact (hp' hp).elim
   have hpl : ¬ placedB k' L.length = true := fun x => by
    obtain ⟨q1, q2, q3⟩ := placed_iff.1 x
    exact hp' (placed_iff.2 ⟨q1, q2, by omega⟩)
   rw [if_neg hpl, if_neg hp', if_neg (show ¬ sameV k' k = true by rw [hn]; decide)]
 refine ⟨⟨⟨fun x hx => ?_, fun x hx => ?_, h.tw.nd, hlast⟩, fun x hx => placed_le (by omega) (h.nx x hx)⟩, hsem, fun W hW => ?_, fun _ => ?_⟩
 ·rcases List.mem_or_eq_of_mem_set (hmem x hx) with h1 | h1
  ·exact h.tw.ga x h1
  ·rw [h1]; exact hv
 ·obtain ⟨g1, g2, g3, g4⟩ := h.tw.gp x hx
  exact ⟨g1, g2, g3, placed_le (by omega) g4⟩
 ·have h1 := wA_set W v hil
  rw [hr, wA_append, wA_nulls hW r hnull] at h1
  rw [wA_refs hW, hW k (ref_int p1)]
  show 0 + W v + wA W a + wP W P = wA W L + wP W P + (W (rd_T24 a (i : Int)) + 0)
  omega
 ·unfold sem
  rw [if_pos hp, show k.f1 - 1 = (i : Int) by omega]
theorem grow_ok : ∀ (n : Nat) (a : List S24) (P : List (S24 × S24)), (flatP P).length < n → TW a P → ∃ P', (growS n a (flatP P)).2 = flatP P' ∧ TOk (growS n a (flatP P)).1 P' ∧ (∀ k', sem (growS n a (flatP P)).1 P' k' = sem a P k') ∧
  ∀ W : S24 → Nat, (∀ x, refB x = false → W x = 0) → wA W (growS n a (flatP P)).1 + wP W P' = wA W a + wP W P
 | 0, a, P, h, _ => by omega
 | n + 1, a, P, h, ht => by
  unfold growS
  rw [idxP_flat]
  cases hf : fIdx ⟨3, (a.length : Int) + 1⟩ P with
  | none =>
   simp only [Option.map_none]
   refine ⟨P, rfl, ⟨ht, fun x hx => placed_not fun h2 => ?_⟩, fun _ => rfl, fun _ _ => rfl⟩
   have h3 := placed_no (ht.gp x hx).2.2.2
   exact fIdx_none hf x hx (s24_eq h2.1 (by show x.1.f1 = (a.length : Int) + 1; omega))
  | some j =>
   obtain ⟨A, x, B, e, hl, hk⟩ := fIdx_some hf
   subst hl
   obtain ⟨P', hP', hperm⟩ := takeP_flat A B x
   rw [← e] at hP' hperm
   simp only [Option.map_some, Nat.zero_add]
   rw [show ((2 * A.length : Nat) : Int) + 1 = ((2 * A.length : Nat) : Int) + 1 from rfl, hP']
   have hx2 : rd_T24 (flatP P) (((2 * A.length : Nat) : Int) + 1) = x.2 := by rw [e]; exact rd_flat1
   rw [hx2]
   have hxm : x ∈ P := by rw [e]; exact List.mem_append_right _ List.mem_cons_self
   have hnd : ((x :: P').map (·.1)).Nodup := (hperm.map (·.1)).nodup_iff.1 ht.nd
   rw [List.map_cons, List.nodup_cons] at hnd
   have hlenA : (a ++ [x.2]).length = a.length + 1 := by rw [List.length_append, List.length_singleton]
   have hk0 : x.1.f0 = 3 := by rw [hk]
   have hk1 : x.1.f1 = (a.length : Int) + 1 := by rw [hk]
   have ht' : TW (a ++ [x.2]) P' := by
    refine ⟨fun y hy => ?_, fun y hy => ?_, hnd.2, fun m hm => ?_⟩
    ·rcases List.mem_append.1 hy with hy | hy
     ·exact ht.ga y hy
     ·rw [List.mem_singleton.1 hy]; exact (ht.gp x hxm).2.1
    ·obtain ⟨g1, g2, g3, g4⟩ := ht.gp y (hperm.mem_iff.2 (List.mem_cons_of_mem _ hy))
     refine ⟨g1, g2, g3, placed_not fun h2 => ?_⟩
     have h3 := placed_no g4
     rw [hlenA] at h2
     apply hnd.1
     rw [show x.1 = y.1 from s24_eq (by omega) (by omega)]
     exact List.mem_map.2 ⟨y, hy, rfl⟩
    ·rw [hlenA] at hm
     obtain rfl : m = a.length := by omega
     rw [rd_app]; exact (ht.gp x hxm).2.2.1
   have hll : (flatP P').length < n := by
    have h1 := hperm.length_eq
    rw [List.length_cons] at h1
    rw [flatP_len] at h ⊢
    omega
   obtain ⟨P2, e1, e2, e3, e4⟩ := grow_ok n (a ++ [x.2]) P' hll ht'
   refine ⟨P2, e1, e2, fun k' => (e3 k').trans ?_, fun W hW => (e4 W hW).trans ?_⟩
   ·unfold sem
    by_cases hp1 : placedB k' (a ++ [x.2]).length = true
    ·obtain ⟨q1, q2, q3⟩ := placed_iff.1 hp1
     rw [hlenA] at q3
     rw [if_pos hp1]
     by_cases hp2 : placedB k' a.length = true
     ·obtain ⟨q4, q5, q6⟩ := placed_iff.1 hp2
      rw [if_pos hp2, rd_idx (by omega), rd_left (by omega), ← rd_idx (by omega)]
     ·have q4 := placed_no (by simpa using hp2)
      have hk' : k' = x.1 := s24_eq (by omega) (by omega)
      rw [if_neg hp2, show k'.f1 - 1 = (a.length : Int) by omega, rd_app, hk', asc_mem ht.nd (show (x.1, x.2) ∈ P from hxm)]
    ·have hp2 : ¬ placedB k' a.length = true := fun x2 => hp1 (placed_iff.2 (by obtain ⟨q1, q2, q3⟩ := placed_iff.1 x2; rw [hlenA]; exact ⟨q1, q2, by omega⟩))
     rw [if_neg hp1, if_neg hp2, asc_perm hperm ht.nd]
     show _ = if sameV x.1 k' = true then x.2 else asc P' k'
     rw [if_neg]
     intro hs
     have := sameV_iff.1 hs
     apply hp1
     rw [← this, hlenA]
     exact placed_iff.2 ⟨hk0, by omega, by omega⟩
   ·rw [wA_append, wP_perm W hperm]
    show wA W a + (W x.2 + 0) + wP W P' = wA W a + (W x.1 + W x.2 + wP W P')
    rw [hW x.1 (ref_int hk0)]
    omega
end Go.Proofs.YtadhkfklkbdabaaR.G
end
