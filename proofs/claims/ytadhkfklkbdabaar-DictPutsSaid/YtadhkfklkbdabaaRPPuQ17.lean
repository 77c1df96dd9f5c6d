import Derived.Deep.RegionLaw
import Derived.Deep.Cut
import Derived.WalkSpells
import Derived.Maps.OwnOps
import Derived.Maps.OwnSet
import Derived.Maps.Views
import Derived.Maps.Own
import Derived.DeepKeys5
import Derived.Outline
import Derived.Deep.AppendLies
import Derived.Laws.CopyRow
import Derived.Laws.CopyOwn
import Derived.StillTailTactics
import Derived.Test.YtadhkfklkbdabaaRPPuQ10
import Derived.Test.YtadhkfklkbdabaaRPPuGxF39
set_option linter.unusedVariables false
set_option linter.unusedSimpArgs false
section
namespace Go.Proofs.YtadhkfklkbdabaaR.G
open Go.RowKit Go.Proofs.YtadhkfklkbdabaaRW.PrintWords Go.Proofs.YtadhkfklkbdabaaRW.PrintLast Go.Proofs.YtadhkfklkbdabaaRW.PrintMore
set_option linter.unusedVariables false
set_option linter.unusedSimpArgs false
def mk (h : S24) (a q : List S24) : List S24 := h :: ⟨3, (a.length : Int)⟩ :: (a ++ q)
theorem mk_len (h : S24) (a q : List S24) : (mk h a q).length = a.length + q.length + 2 := by show (a ++ q).length + 1 + 1 = _; rw [List.length_append]
theorem rd_cc {h x : S24} {L : List S24} (j : Nat) : rd_T24 (h :: x :: L) ((j + 2 : Nat) : Int) = rd_T24 L (j : Int) := by unfold rd_T24; rw [Int.toNat_natCast, Int.toNat_natCast]; rfl
theorem rd_skip (a q : List S24) (j : Nat) : rd_T24 (a ++ q) ((a.length + j : Nat) : Int) = rd_T24 q (j : Int) := by
 unfold rd_T24
 rw [Int.toNat_natCast, Int.toNat_natCast, List.getD_eq_getElem?_getD, List.getD_eq_getElem?_getD, List.getElem?_append_right (by omega), Nat.add_sub_cancel_left]
theorem rd_mk_a {h : S24} {a q : List S24} {j : Nat} (hj : j < a.length) : rd_T24 (mk h a q) ((j + 2 : Nat) : Int) = rd_T24 a (j : Int) := (rd_cc j).trans (rd_left hj)
theorem rd_mk_q {h : S24} {a q : List S24} (j : Nat) : rd_T24 (mk h a q) ((a.length + j + 2 : Nat) : Int) = rd_T24 q (j : Int) := (rd_cc (a.length + j)).trans (rd_skip a q j)
theorem take_mk (h : S24) (a q : List S24) (m : Nat) : (mk h a q).take (m + 2) = h :: ⟨3, (a.length : Int)⟩ :: (a ++ q).take m := rfl
theorem drop_mk (h : S24) (a q : List S24) : (mk h a q).drop (a.length + 2) = q := by show (a ++ q).drop a.length = q; exact List.drop_left
theorem epair_mk (h : S24) (a q : List S24) (k : S24) (hl : a.length + q.length ≤ 10000) (he : q.length % 2 = 0) : Ev (fun f => tallowref09_pair.f f (mk h a q) k.f0 k.f1) (match idxP k q 0 with | some j => ((a.length + j + 2 : Nat) : Int) | none => 0) := by
 have hm := mk_len h a q
 unfold tallowref09_pair.f
 refine Ev.pos (by omega) ?_
 rw [show (rd_T24 (mk h a q) 1).f1 = (a.length : Int) from rfl, wrapN (by omega) (by omega)]
 have := epair_l (mk h a q) k (by omega) (q.length / 2) (a.length + 2) (by omega)
 rw [drop_mk, idxP_at k q.length q (a.length + 2) (Nat.le_refl _)] at this
 rw [show (2 : Int) + (a.length : Int) = ((a.length + 2 : Nat) : Int) by omega]
 cases hi : idxP k q 0 with
 | none => rw [hi] at this; exact this
 | some j =>
  rw [hi] at this
  simp only [Option.map_some] at this
  rw [show j + (a.length + 2) = a.length + j + 2 by omega] at this
  exact this
theorem idxP_even (k : S24) : ∀ (n : Nat) (q : List S24) (i j : Nat), q.length ≤ n → i % 2 = 0 → idxP k q i = some j → j % 2 = 0
 | n, [], i, j, _, _, h => by simp [idxP] at h
 | n, [_], i, j, _, _, h => by simp [idxP] at h
 | 0, _ :: _ :: _, i, j, hn, _, h => by simp at hn
 | n + 1, a :: b :: r, i, j, hn, hi, h => by
  unfold idxP at h
  by_cases e : sameV a k = true
  ·rw [if_pos e] at h; injection h with h; omega
  ·rw [if_neg e] at h
   exact idxP_even k n r (i + 2) j (by simp at hn; omega) (by omega) h
theorem takeP_take (q : List S24) (i : Nat) : takeP q i = (((q.take (q.length - 2)).set i (rd_T24 q ((q.length : Int) - 2))).set (i + 1) (rd_T24 q ((q.length : Int) - 1))) := by unfold takeP; rw [List.take_set, List.take_set]
theorem without_mk {h : S24} {a q : List S24} {i : Nat} (hl : a.length + q.length ≤ 10000) (he : q.length % 2 = 0) (hi : i % 2 = 0) (hiq : i + 2 ≤ q.length) : tallowref09_without.f (mk h a q) ((a.length + i + 2 : Nat) : Int) = some (mk h a (takeP q i)) := by
 have hm := mk_len h a q
 have e1 : (mk h a q).take (a.length + (q.length - 2) + 2) = mk h a (q.take (q.length - 2)) := by
  rw [take_mk, List.take_append, List.take_of_length_le (by omega), show a.length + (q.length - 2) - a.length = q.length - 2 by omega]; rfl
 have hm2 := mk_len h a (q.take (q.length - 2))
 rw [List.length_take] at hm2
 unfold tallowref09_without.f
 rw [wrapN (n := ((mk h a q).length : Int) - 2) (by omega) (by omega), wrapN (n := ((mk h a q).length : Int) - 1) (by omega) (by omega), wrapN (n := ((a.length + i + 2 : Nat) : Int) + 1) (by omega) (by omega), if_pos (by omega), if_pos (by omega), Option.bind_some, show ((((mk h a q).length : Int) - 2)).toNat = a.length + (q.length - 2) + 2 by omega, e1, if_pos (by simp; omega), List.nil_append, Option.bind_some]
 have r1 : rd_T24 (mk h a q) (((mk h a q).length : Int) - 2) = rd_T24 q ((q.length : Int) - 2) := by
  have := rd_mk_q (h := h) (a := a) (q := q) (q.length - 2)
  rw [show ((a.length + (q.length - 2) + 2 : Nat) : Int) = ((mk h a q).length : Int) - 2 by omega, show ((q.length - 2 : Nat) : Int) = (q.length : Int) - 2 by omega] at this
  exact this
 have r2 : rd_T24 (mk h a q) (((mk h a q).length : Int) - 1) = rd_T24 q ((q.length : Int) - 1) := by
  have := rd_mk_q (h := h) (a := a) (q := q) (q.length - 1)
  rw [show ((a.length + (q.length - 1) + 2 : Nat) : Int) = ((mk h a q).length : Int) - 1 by omega, show ((q.length - 1 : Nat) : Int) = (q.length : Int) - 1 by omega] at this
  exact this
 rw [takeP_take]
 by_cases hlt : i + 2 < q.length
 ·rw [if_pos (by omega), if_pos (by omega), if_pos (by omega), if_pos (by omega), if_pos (by omega), if_pos (by omega), if_pos (by omega), r1, r2]
  have e3 : ∀ (L : List S24) (j : Nat) (v : S24), (mk h a L).set (a.length + j + 2) v = mk h a (L.set j v) := fun L j v => by
   show h :: ⟨3, (a.length : Int)⟩ :: (a ++ L).set (a.length + j) v = _
   rw [List.set_append_right _ _ (by omega), Nat.add_sub_cancel_left]; rfl
  rw [show (((a.length + i + 2 : Nat) : Int)).toNat = a.length + i + 2 by omega, show (((a.length + i + 2 : Nat) : Int) + 1).toNat = a.length + (i + 1) + 2 by omega, e3, e3]
 ·rw [if_neg (by omega)]
  rw [List.set_eq_of_length_le (by rw [List.length_set, List.length_take]; omega), List.set_eq_of_length_le (by rw [List.length_take]; omega)]
theorem behind_mk {h : S24} {a q : List S24} (v : S24) (hl : a.length + q.length ≤ 10000) : tallowref09_behind.f (mk h a q) v.f0 v.f1 = some (mk h (a ++ [v]) q) := by
 have hm := mk_len h a q
 have e1 : (mk h a q).take (a.length + 2) = h :: ⟨3, (a.length : Int)⟩ :: a := by rw [take_mk, List.take_left]
 unfold tallowref09_behind.f
 rw [show (rd_T24 (mk h a q) 1).f1 = (a.length : Int) from rfl, wrapN (n := 2 + (a.length : Int)) (by omega) (by omega), wrapN (n := (a.length : Int) + 1) (by omega) (by omega), if_pos (by omega), if_pos (by omega), if_pos (by omega), Option.bind_some, show (2 + (a.length : Int)).toNat = a.length + 2 by omega, e1, drop_mk, if_pos (by simp; omega), List.nil_append, Option.bind_some, if_pos (by simp; omega), Option.bind_some, Option.bind_some, if_pos (by simp; omega), Option.bind_some]
 show (if _ then some _ else none) = _
 rw [if_pos (by simp; omega)]
 show some (h :: ⟨3, (a.length : Int) + 1⟩ :: (a ++ [v] ++ q)) = some (h :: ⟨3, ((a ++ [v]).length : Int)⟩ :: (a ++ [v] ++ q))
 rw [List.length_append, List.length_singleton]; rfl
theorem fin_mk {h : S24} {a q : List S24} {m : Nat} (hm : m ≤ a.length) : ((mk h a q).take (m + 2) ++ (mk h a q).drop (a.length + 2)).set 1 ⟨3, (m : Int)⟩ = mk h (a.take m) q := by
 rw [take_mk, drop_mk, List.take_append_of_le_length hm]
 show h :: ⟨3, (m : Int)⟩ :: (a.take m ++ q) = h :: ⟨3, ((a.take m).length : Int)⟩ :: (a.take m ++ q)
 rw [List.length_take, Nat.min_eq_left hm]
theorem fin_f {h : S24} {a q : List S24} {m : Nat} (hm : m ≤ a.length) (hl : a.length + q.length ≤ 10000) : (if 0 ≤ (wrap64 (2 + (m : Int))) then (if (wrap64 (2 + (m : Int))) ≤ ((mk h a q).length : Int) then ((some ((mk h a q).take ((wrap64 (2 + (m : Int))) : Int).toNat : List (S24))).bind fun y157 => (if ([] : List (S24)).length + y157.length < 8796093022208 then ((some (([] : List (S24)) ++ y157 : List (S24))).bind fun y161 => (if 1 < ((mk h a q).length : Int) then (if 0 ≤ (wrap64 (2 + ((rd_T24 (mk h a q) 1).f1))) then (if (wrap64 (2 + ((rd_T24 (mk h a q) 1).f1))) ≤ ((mk h a q).length : Int) then ((some ((mk h a q).drop ((wrap64 (2 + ((rd_T24 (mk h a q) 1).f1))) : Int).toNat : List (S24))).bind fun y165 => (if y161.length + y165.length < 8796093022208 then ((some (y161 ++ y165 : List (S24))).bind fun y169 => ((tallowref09_integer.f (m : Int)).bind fun bt172 => (if 1 < (y169.length : Int) then (some (y169.set (1 : Int).toNat (⟨bt172.1, bt172.2⟩ : S24))) else (none)))) else (none))) else (none)) else (none)) else (none))) else (none))) else (none)) else (none)) = some (mk h (a.take m) q) := by
 have hml := mk_len h a q
 have ht : ((mk h a q).take (m + 2)).length = m + 2 := by rw [List.length_take]; omega
 have hd : ((mk h a q).drop (a.length + 2)).length = q.length := by rw [drop_mk]
 rw [show (rd_T24 (mk h a q) 1).f1 = (a.length : Int) from rfl, wrapN (n := 2 + (m : Int)) (by omega) (by omega), wrapN (n := 2 + (a.length : Int)) (by omega) (by omega), if_pos (by omega), if_pos (by omega), Option.bind_some, show (2 + (m : Int)).toNat = m + 2 by omega, show (2 + (a.length : Int)).toNat = a.length + 2 by omega, if_pos (by rw [ht]; simp; omega), List.nil_append, Option.bind_some, if_pos (by omega), if_pos (by omega), if_pos (by omega), Option.bind_some, if_pos (by rw [ht, hd]; omega), Option.bind_some]
 show (if _ then some _ else none) = _
 rw [if_pos (by rw [List.length_append, ht, hd]; omega)]
 exact congrArg some (fin_mk hm)
theorem eended {h : S24} {a q : List S24} (hl : a.length + q.length ≤ 10000) (hg : ∀ x ∈ a, H.mayB x.f0 x.f1 = true) : ∀ m : Nat, m ≤ a.length → Ev (fun f => tallowref09_ended.l0 f (mk h a q) (m : Int)) (mk h (trimN (a.take m)) q)
 | 0, hm => by
  refine Ev.step (g := fun _ => some (mk h (a.take 0) q)) (fun f => ?_) (Ev.pure _)
  rw [tallowref09_ended.l0, if_neg (by omega)]
  exact fin_f hm hl
 | m + 1, hm => by
  have hml := mk_len h a q
  have e1 : a.take (m + 1) = a.take m ++ [rd_T24 a (m : Int)] := by rw [List.take_add_one, List.getElem?_eq_getElem (by omega), rdN (by omega)]; rfl
  have e2 : rd_T24 (mk h a q) (1 + ((m + 1 : Nat) : Int)) = rd_T24 a (m : Int) := by
   rw [show (1 : Int) + ((m + 1 : Nat) : Int) = ((m + 2 : Nat) : Int) by omega]; exact rd_mk_a (by omega)
  have hn := null_iff (hg _ (rd_mem (show m < a.length by omega)))
  rw [e1, trimN_snoc]
  by_cases h1 : (rd_T24 a (m : Int)).f0 = 1
  ·rw [if_pos (by rw [hn]; simpa using h1)]
   refine Ev.step (fun f => ?_) (eended hl hg m (by omega))
   rw [tallowref09_ended.l0, if_pos (by omega), wrapN (n := 1 + ((m + 1 : Nat) : Int)) (by omega) (by omega), if_pos (by omega), if_pos (by omega), e2, if_pos h1, wrapN (by omega) (by omega), show ((m + 1 : Nat) : Int) - 1 = (m : Int) by omega]
  ·rw [if_neg (by rw [hn]; simpa using h1), ← e1]
   refine Ev.step (g := fun _ => some (mk h (a.take (m + 1)) q)) (fun f => ?_) (Ev.pure _)
   rw [tallowref09_ended.l0, if_pos (by omega), wrapN (n := 1 + ((m + 1 : Nat) : Int)) (by omega) (by omega), if_pos (by omega), if_pos (by omega), e2, if_neg h1]
   exact fin_f hm hl
theorem egrow (h : S24) : ∀ (n : Nat) (a q : List S24), q.length < n → q.length % 2 = 0 → a.length + q.length ≤ 5000 → Ev (fun f => tallowref09_put.l0 f (mk h a q)) (mk h (growS n a q).1 (growS n a q).2, [])
 | 0, a, q, hn, _, _ => by omega
 | n + 1, a, q, hn, he, hl => by
  have hml := mk_len h a q
  refine Ev.step (g := fun f => (tallowref09_pair.f f (mk h a q) 3 ((a.length : Int) + 1)).bind fun t278 => (if t278 = 0 then some (mk h a q, []) else (if 0 ≤ wrap64 (t278 + 1) then (if wrap64 (t278 + 1) < ((mk h a q).length : Int) then ((tallowref09_without.f (mk h a q) t278).bind fun t281 => ((tallowref09_behind.f t281 ((rd_T24 (mk h a q) (wrap64 (t278 + 1))).f0) ((rd_T24 (mk h a q) (wrap64 (t278 + 1))).f1)).bind fun t284 => tallowref09_put.l0 f t284)) else none) else none))) (fun f => ?_) (Ev.bind (epair_mk h a q ⟨3, (a.length : Int) + 1⟩ (by omega) he) ?_)
  ·rw [tallowref09_put.l0, if_pos (by omega), show (rd_T24 (mk h a q) 1).f1 = (a.length : Int) from rfl, wrapN (n := (a.length : Int) + 1) (by omega) (by omega)]; rfl
  ·unfold growS
   cases hi : idxP ⟨3, (a.length : Int) + 1⟩ q 0 with
   | none => exact Ev.pos rfl (Ev.pure _)
   | some i =>
    have hb := (idxP_bound _ _ q 0 i (Nat.le_refl _) hi).2
    have hev := idxP_even _ _ q 0 i (Nat.le_refl _) rfl hi
    have htl := takeP_len q i
    have r1 : rd_T24 (mk h a q) (((a.length + i + 2 : Nat) : Int) + 1) = rd_T24 q ((i : Int) + 1) := by
     have := rd_mk_q (h := h) (a := a) (q := q) (i + 1)
     rw [show ((a.length + (i + 1) + 2 : Nat) : Int) = ((a.length + i + 2 : Nat) : Int) + 1 by omega, show ((i + 1 : Nat) : Int) = (i : Int) + 1 by omega] at this
     exact this
    dsimp only
    refine Ev.neg (by omega) ?_
    rw [wrapN (n := ((a.length + i + 2 : Nat) : Int) + 1) (by omega) (by omega)]
    refine Ev.pos (by omega) (Ev.pos (by omega) (Ev.bind (Ev.of fun _ => without_mk (by omega) he hev (by omega)) (Ev.bind (Ev.of fun _ => behind_mk _ (by omega)) ?_)))
    rw [r1]
    exact egrow h n (a ++ [rd_T24 q ((i : Int) + 1)]) (takeP q i) (by omega) (by omega) (by rw [List.length_append, List.length_singleton]; omega)
end Go.Proofs.YtadhkfklkbdabaaR.G
end
