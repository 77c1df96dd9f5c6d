import Derived.Deep.RegionLaw
import Derived.Deep.Cut
import Derived.WalkSpells
import Derived.Maps.OwnOps
import Derived.Maps.OwnSet
import Derived.Maps.Views
import Derived.Maps.Own
import Derived.DeepKeys5
import Derived.Outline
import Derived.Deep.AppendLies
import Derived.Laws.CopyRow
import Derived.Laws.CopyOwn
import Derived.StillTailTactics
import Derived.Test.YtadhkfklkbdabaaRPOrQ8
set_option linter.unusedVariables false
set_option linter.unusedSimpArgs false
section
namespace Go.Proofs.YtadhkfklkbdabaaR.G
open Go.RowKit Go.Proofs.YtadhkfklkbdabaaRW.PrintWords Go.Proofs.YtadhkfklkbdabaaRW.PrintLast Go.Proofs.YtadhkfklkbdabaaRW.PrintMore
set_option linter.unusedVariables false
set_option linter.unusedSimpArgs false
theorem asc_mid {k' v : S24} {x : S24 × S24} {B : List (S24 × S24)} (h : x.1 ≠ k') : ∀ A : List (S24 × S24), asc (A ++ (x.1, v) :: B) k' = asc (A ++ x :: B) k'
 | [] => by
  show (if sameV x.1 k' = true then v else asc B k') = (if sameV x.1 k' = true then x.2 else asc B k')
  rw [if_neg (fun e => h (sameV_iff.1 e)), if_neg (fun e => h (sameV_iff.1 e))]
 | y :: A => by
  show (if sameV y.1 k' = true then y.2 else asc (A ++ (x.1, v) :: B) k') = (if sameV y.1 k' = true then y.2 else asc (A ++ x :: B) k')
  rw [asc_mid h A]
theorem refs_int {k : S24} (l : List S24) (h : k.f0 = 3) : refsL (k :: l) = refsL l := by rw [refsL_snoc, ref_int h, if_neg (by decide)]
theorem refs_one {x : S24} {l : List S24} (h : refsL l = []) : refsL (x :: l) = refsL [x] := by rw [refsL_snoc, refsL_snoc, h]; rfl
theorem refs_null : refsL [⟨1, 0⟩] = [] := by decide
theorem sem_not {a : List S24} {P : List (S24 × S24)} {k : S24} (h : ¬ placedB k a.length = true) : sem a P k = asc P k := by unfold sem; rw [if_neg h]
theorem sm_of {a : List S24} {P P' : List (S24 × S24)} {k v : S24} (hp : ¬ placedB k a.length = true) (h : ∀ k', asc P' k' = if sameV k' k = true then v else asc P k') (k' : S24) : sem a P' k' = if sameV k' k = true then v else sem a P k' := by
 unfold sem
 by_cases hq : placedB k' a.length = true
 ·rw [if_pos hq, if_pos hq, if_neg]
  intro hs; rw [sameV_iff.1 hs] at hq; exact hp hq
 ·rw [if_neg hq, if_neg hq]; exact h k'
theorem put_ok {a : List S24} {P : List (S24 × S24)} {k v : S24} (h : TOk a P) (hk : keyB k = true) (hv : goodB v = true) : ∃ P', (changeS a (flatP P) k v).2.1 = flatP P' ∧ PutOk a P k v (changeS a (flatP P) k v).1 P' (changeS a (flatP P) k v).2.2 := by
 unfold changeS
 by_cases hp : placedB k a.length = true
 ·rw [if_pos hp]
  exact ⟨P, rfl, put_placed h hv hp⟩
 ·rw [if_neg hp, idxP_flat]
  cases hf : fIdx k P with
  | some j =>
   obtain ⟨A, x, B, e, hl, hk1⟩ := fIdx_some hf
   subst hl
   simp only [Option.map_some, Nat.zero_add]
   have hx1 : rd_T24 (flatP P) (((2 * A.length : Nat) : Int) + 1) = x.2 := by rw [e]; exact rd_flat1
   have hx0 : rd_T24 (flatP P) ((2 * A.length : Nat) : Int) = x.1 := by rw [e]; exact rd_flat0
   have hxm : x ∈ P := by rw [e]; exact List.mem_append_right _ List.mem_cons_self
   have hsk : sem a P k = x.2 := by rw [sem_not hp]; exact asc_mem h.tw.nd (show (k, x.2) ∈ P by rw [← hk1]; exact hxm)
   rw [hx1, hx0]
   by_cases hn : nullB v = true
   ·rw [if_pos hn]
    obtain ⟨P', hP', hperm⟩ := takeP_flat A B x
    rw [← e] at hP' hperm
    have hnd : ((x :: P').map (·.1)).Nodup := ((hperm.map (·.1)).nodup_iff).1 h.tw.nd
    rw [List.map_cons, List.nodup_cons] at hnd
    have hv0 := null_eq hn
    refine ⟨P', hP', ⟨⟨h.tw.ga, fun y hy => h.tw.gp y (hperm.mem_iff.2 (List.mem_cons_of_mem _ hy)), hnd.2, h.tw.la⟩, fun y hy => h.nx y (hperm.mem_iff.2 (List.mem_cons_of_mem _ hy))⟩, sm_of hp fun k' => ?_, fun W hW => ?_, fun h3 => ?_⟩
    ·by_cases hs : sameV k' k = true
     ·rw [if_pos hs, hv0]
      refine asc_no fun y hy e2 => hnd.1 ?_
      rw [hk1, ← sameV_iff.1 hs, ← e2]
      exact List.mem_map.2 ⟨y, hy, rfl⟩
     ·rw [if_neg hs, asc_perm hperm h.tw.nd]
      show _ = if sameV x.1 k' = true then x.2 else asc P' k'
      rw [if_neg]
      intro hs2
      exact hs (by rw [← hk1, sameV_comm]; exact hs2)
    ·rw [wA_refs hW, wP_perm W hperm, hk1, hv0, hW _ ref_null]
     show W k + 0 + wA W a + (W x.1 + W x.2 + wP W P') = wA W a + wP W P' + (W x.2 + (W k + (W k + 0)))
     rw [hk1]; omega
    ·show refsL [x.2, x.1, k] = _
     rw [hsk]
     refine refs_one ?_
     rw [refs_int _ (by rw [hk1]; exact h3), refs_int _ h3]; rfl
   ·rw [if_neg hn]
    refine ⟨A ++ (x.1, v) :: B, by rw [e]; exact set_flat, ⟨⟨h.tw.ga, fun y hy => ?_, ?_, h.tw.la⟩, fun y hy => ?_⟩, sm_of hp fun k' => ?_, fun W hW => ?_, fun h3 => ?_⟩
    ·rcases List.mem_append.1 hy with hy | hy
     ·exact h.tw.gp y (by rw [e]; exact List.mem_append_left _ hy)
     ·rcases List.mem_cons.1 hy with rfl | hy
      ·exact ⟨(h.tw.gp x hxm).1, hv, by simpa using hn, (h.tw.gp x hxm).2.2.2⟩
      ·exact h.tw.gp y (by rw [e]; exact List.mem_append_right _ (List.mem_cons_of_mem _ hy))
    ·have := h.tw.nd
     rw [e] at this
     simpa using this
    ·rcases List.mem_append.1 hy with hy | hy
     ·exact h.nx y (by rw [e]; exact List.mem_append_left _ hy)
     ·rcases List.mem_cons.1 hy with rfl | hy
      ·exact h.nx x hxm
      ·exact h.nx y (by rw [e]; exact List.mem_append_right _ (List.mem_cons_of_mem _ hy))
    ·by_cases hs : sameV k' k = true
     ·rw [if_pos hs, sameV_iff.1 hs]
      refine asc_mem ?_ (show (k, v) ∈ A ++ (x.1, v) :: B by rw [hk1]; exact List.mem_append_right _ List.mem_cons_self)
      have := h.tw.nd
      rw [e] at this
      simpa using this
     ·rw [if_neg hs, e]
      exact asc_mid (fun e2 => hs (by rw [← e2, hk1]; exact sameV_self k)) A
    ·rw [wA_refs hW, e, wP_append, wP_append]
     show W k + W v + wA W a + (wP W A + (W x.1 + W x.2 + wP W B)) = wA W a + (wP W A + (W x.1 + W v + wP W B)) + (W x.2 + (W k + 0))
     omega
    ·show refsL [x.2, k] = _
     rw [hsk]
     refine refs_one ?_
     rw [refs_int _ h3]; rfl
  | none =>
   have hno := fIdx_none hf
   have hsk : sem a P k = ⟨1, 0⟩ := by rw [sem_not hp]; exact asc_no hno
   simp only [Option.map_none]
   by_cases hn : nullB v = true
   ·rw [if_pos hn]
    have hv0 := null_eq hn
    refine ⟨P, rfl, h, sm_of hp fun k' => ?_, fun W hW => ?_, fun h3 => ?_⟩
    ·by_cases hs : sameV k' k = true
     ·rw [if_pos hs, sameV_iff.1 hs, hv0]; exact asc_no hno
     ·rw [if_neg hs]
    ·rw [wA_refs hW, hv0, hW _ ref_null]
     show W k + 0 + wA W a + wP W P = wA W a + wP W P + (W k + 0)
     omega
    ·show refsL [k] = _
     rw [refs_int _ h3, hsk, refs_null]; rfl
   ·rw [if_neg hn]
    by_cases hp1 : placedB k (a.length + 1) = true
    ·rw [if_pos hp1]
     obtain ⟨q1, q2, q3⟩ := placed_iff.1 hp1
     have hq := placed_no (show placedB k a.length = false by simpa using hp)
     have hlenA : (a ++ [v]).length = a.length + 1 := by rw [List.length_append, List.length_singleton]
     have ht : TW (a ++ [v]) P := by
      refine ⟨fun y hy => ?_, fun y hy => ?_, h.tw.nd, fun m hm => ?_⟩
      ·rcases List.mem_append.1 hy with hy | hy
       ·exact h.tw.ga y hy
       ·rw [List.mem_singleton.1 hy]; exact hv
      ·obtain ⟨g1, g2, g3, g4⟩ := h.tw.gp y hy
       exact ⟨g1, g2, g3, by rw [hlenA]; exact h.nx y hy⟩
      ·rw [hlenA] at hm
       obtain rfl : m = a.length := by omega
       rw [rd_app]; simpa using hn
     obtain ⟨P2, e1, e2, e3, e4⟩ := grow_ok ((flatP P).length + 1) (a ++ [v]) P (by omega) ht
     refine ⟨P2, e1, e2, fun k' => (e3 k').trans ?_, fun W hW => ?_, fun h3 => ?_⟩
     ·unfold sem
      by_cases hp2 : placedB k' (a ++ [v]).length = true
      ·obtain ⟨r1, r2, r3⟩ := placed_iff.1 hp2
       rw [hlenA] at r3
       rw [if_pos hp2]
       by_cases hp3 : placedB k' a.length = true
       ·obtain ⟨r4, r5, r6⟩ := placed_iff.1 hp3
        rw [if_pos hp3, if_neg (fun hs => hp (by rw [← sameV_iff.1 hs]; exact hp3)), rd_idx (by omega), rd_left (by omega), ← rd_idx (by omega)]
       ·have r4 := placed_no (show placedB k' a.length = false by simpa using hp3)
        rw [if_pos (sameV_iff.2 (s24_eq (by omega) (by omega))), show k'.f1 - 1 = (a.length : Int) by omega, rd_app]
      ·have hp3 : ¬ placedB k' a.length = true := fun x2 => hp2 (placed_iff.2 (by obtain ⟨r1, r2, r3⟩ := placed_iff.1 x2; rw [hlenA]; exact ⟨r1, r2, by omega⟩))
       rw [if_neg hp2, if_neg hp3, if_neg]
       intro hs
       apply hp2
       rw [sameV_iff.1 hs, hlenA]
       exact placed_iff.2 ⟨q1, q2, by omega⟩
     ·have := e4 W hW
      rw [wA_append] at this
      rw [hW k (ref_int q1)]
      show 0 + W v + wA W a + wP W P = wA W (growS ((flatP P).length + 1) (a ++ [v]) (flatP P)).1 + wP W P2 + 0
      rw [this]
      show 0 + W v + wA W a + wP W P = wA W a + (W v + 0) + wP W P + 0
      omega
     ·show [] = _
      rw [hsk, refs_null]
    ·rw [if_neg hp1]
     have hperm : (P ++ [(k, v)]).Perm ((k, v) :: P) := List.perm_append_comm
     have hnd : (((k, v) :: P).map (·.1)).Nodup := by
      rw [List.map_cons, List.nodup_cons]
      refine ⟨fun hm => ?_, h.tw.nd⟩
      obtain ⟨y, hy, e⟩ := List.mem_map.1 hm
      exact hno y hy e
     have hnd2 : ((P ++ [(k, v)]).map (·.1)).Nodup := ((hperm.map (·.1)).nodup_iff).2 hnd
     refine ⟨P ++ [(k, v)], by rw [flatP_append]; rfl, ⟨⟨h.tw.ga, fun y hy => ?_, hnd2, h.tw.la⟩, fun y hy => ?_⟩, sm_of hp fun k' => ?_, fun W hW => ?_, fun h3 => ?_⟩
     ·rcases List.mem_append.1 hy with hy | hy
      ·exact h.tw.gp y hy
      ·rw [List.mem_singleton.1 hy]; exact ⟨hk, hv, by simpa using hn, by simpa using hp⟩
     ·rcases List.mem_append.1 hy with hy | hy
      ·exact h.nx y hy
      ·rw [List.mem_singleton.1 hy]; simpa using hp1
     ·rw [asc_perm hperm hnd2]
      show (if sameV k k' = true then v else asc P k') = _
      rw [sameV_comm k k']
     ·rw [wP_append]
      show W k + W v + wA W a + wP W P = wA W a + (wP W P + (W k + W v + 0)) + 0
      omega
     ·show [] = _
      rw [hsk, refs_null]
end Go.Proofs.YtadhkfklkbdabaaR.G
end
