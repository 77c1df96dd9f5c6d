import Derived.Deep.RegionLaw
import Derived.Deep.Cut
import Derived.WalkSpells
import Derived.Maps.OwnOps
import Derived.Maps.OwnSet
import Derived.Maps.Views
import Derived.Maps.Own
import Derived.DeepKeys5
import Derived.Outline
import Derived.Deep.AppendLies
import Derived.Laws.CopyRow
import Derived.Laws.CopyOwn
import Derived.StillTailTactics
import Derived.Test.YtadhkfklkbdabaaRPPuD18
import Derived.Test.YtadhkfklkbdabaaRPPuGxF37
import Derived.Test.YtadhkfklkbdabaaRPPuGxF38
import Derived.Test.YtadhkfklkbdabaaRPPuGxF41
import Derived.Test.YtadhkfklkbdabaaRPPuGxF44
import Derived.Test.YtadhkfklkbdabaaRPPuGxF20
set_option linter.unusedVariables false
set_option linter.unusedSimpArgs false
section
namespace Go.Proofs.YtadhkfklkbdabaaR.G
open Go.RowKit Go.Proofs.YtadhkfklkbdabaaRW.PrintWords Go.Proofs.YtadhkfklkbdabaaRW.PrintLast Go.Proofs.YtadhkfklkbdabaaRW.PrintMore
set_option linter.unusedVariables false
set_option linter.unusedSimpArgs false
def Ev {α : Type} (f : Nat → Option α) (r : α) : Prop := ∃ K, ∀ k, K ≤ k → f k = some r
theorem Ev.of {α : Type} {f : Nat → Option α} {r : α} (h : ∀ k, f k = some r) : Ev f r := ⟨0, fun k _ => h k⟩
theorem Ev.pure {α : Type} (r : α) : Ev (fun _ => some r) r := ⟨0, fun _ _ => rfl⟩
theorem Ev.up {α : Type} {f : Nat → Option α} {r : α} (hm : ∀ k, LeO (f k) (f (k + 1))) {k : Nat} (h : f k = some r) : Ev f r := by
 refine ⟨k, fun m hm2 => ?_⟩
 induction m with
 | zero =>
  obtain rfl : k = 0 := by omega
  exact h
 | succ m ih =>
  by_cases e : k = m + 1
  ·subst e; exact h
  ·exact hm m r (ih (by omega))
theorem Ev.bind {α β : Type} {f : Nat → Option α} {g : Nat → α → Option β} {a : α} {r : β} (h1 : Ev f a) (h2 : Ev (fun k => g k a) r) : Ev (fun k => (f k).bind (g k)) r := by
 obtain ⟨K1, h1⟩ := h1
 obtain ⟨K2, h2⟩ := h2
 exact ⟨max K1 K2, fun k hk => by show (f k).bind (g k) = some r; rw [h1 k (by omega), Option.bind_some]; exact h2 k (by omega)⟩
theorem Ev.step {α : Type} {f g : Nat → Option α} {r : α} (h : ∀ k, f (k + 1) = g k) (h2 : Ev g r) : Ev f r := by
 obtain ⟨K, h2⟩ := h2
 refine ⟨K + 1, fun k hk => ?_⟩
 obtain ⟨k, rfl⟩ : ∃ m, k = m + 1 := ⟨k - 1, by omega⟩
 rw [h]; exact h2 k (by omega)
theorem Ev.congr {α : Type} {f g : Nat → Option α} {r : α} (h : ∀ k, f k = g k) (h2 : Ev g r) : Ev f r := by
 obtain ⟨K, h2⟩ := h2
 exact ⟨K, fun k hk => by rw [h]; exact h2 k hk⟩
theorem Ev.pos {α : Type} {f g : Nat → Option α} {r : α} {c : Prop} [Decidable c] (hc : c) (h : Ev f r) : Ev (fun k => if c then f k else g k) r := Ev.congr (fun _ => if_pos hc) h
theorem Ev.neg {α : Type} {f g : Nat → Option α} {r : α} {c : Prop} [Decidable c] (hc : ¬ c) (h : Ev g r) : Ev (fun k => if c then f k else g k) r := Ev.congr (fun _ => if_neg hc) h
theorem Ev.at {α : Type} {f : Nat → Option α} {r : α} (h : Ev f r) : ∃ k, f k = some r := by
 obtain ⟨K, h⟩ := h
 exact ⟨K, h K (Nat.le_refl _)⟩
theorem rmay (k : Nat) (a b : Int) : tallowref02_May.f (k + 1) a b = some (H.mayB a b) := by
 unfold tallowref02_May.f H.mayB
 by_cases h0 : a = 0
 ·subst h0; simp [tallowref02_May.j0]
 by_cases h1 : a = 1
 ·subst h1; simp [tallowref02_May.j0]
 have e1 : (a == 1) = false := by simpa using h1
 rw [if_neg h0, if_neg h0, if_neg h1, e1]
 rw [tallowref02_May.j0, H.withinB, H.withinB, H.withinB]
 rw [if_neg (by decide)]
 by_cases h2 : a = 2
 ·rw [if_pos h2, if_pos h2]
  by_cases hb : b = 0
  ·rw [if_pos hb]; simp [hb]
  ·rw [if_neg hb, Option.some.injEq, Bool.eq_iff_iff]; simp; omega
 rw [if_neg h2, if_neg h2]
 by_cases h3 : a = 3
 ·rw [if_pos h3, if_pos h3]
 rw [if_neg h3, if_neg h3]
 by_cases h4 : a = 4
 ·rw [if_pos h4, if_pos h4]
  by_cases hb : b ≥ 0
  ·rw [if_pos hb, if_neg (by omega)]
  ·rw [if_neg hb, if_pos (by omega)]
 rw [if_neg h4, if_neg h4]
 by_cases h5 : a ≥ 5
 ·have d5 : decide (5 ≤ a) = true := by simpa using h5
  rw [if_pos h5, d5]
  by_cases h9 : a ≤ 9
  ·have d9 : decide (a ≤ 9) = true := by simpa using h9
   rw [if_pos h9, d9]
   by_cases hb : b ≥ 1
   ·rw [if_pos hb, if_neg (by omega)]; simp
   ·rw [if_neg hb, if_pos (by omega)]; simp
  ·have d9 : decide (a ≤ 9) = false := by simpa using h9
   rw [if_neg h9, d9]; simp
 ·have d5 : decide (5 ≤ a) = false := by simpa using h5
  rw [if_neg h5, d5]; simp
theorem may_nonneg {a b : Int} (h : H.mayB a b = true) : 0 ≤ a := by
 unfold H.mayB at h
 by_cases h0 : a = 0; · omega
 by_cases h1 : a = 1; · omega
 by_cases h2 : a = 2; · omega
 by_cases h3 : a = 3; · omega
 by_cases h4 : a = 4; · omega
 rw [if_neg h0, if_neg h1, if_neg h2, if_neg h3, if_neg h4] at h
 simp at h
 omega
theorem may_null {b : Int} (h : H.mayB 1 b = true) : b = 0 := by unfold H.mayB at h; simpa using h
theorem emay (a b : Int) : Ev (fun k => tallowref02_May.f k a b) (H.mayB a b) := Ev.step (fun k => rmay k a b) (Ev.pure _)
theorem ekey (v : S24) : Ev (fun k => tallowref02_Key.f k v.f0 v.f1) (keyB v) := by
 unfold tallowref02_Key.f
 refine Ev.bind (emay v.f0 v.f1) ?_
 unfold keyB
 cases h : H.mayB v.f0 v.f1 with
 | false => simp; exact Ev.pure _
 | true =>
  have h0 := may_nonneg h
  rw [if_pos rfl]
  by_cases e0 : v.f0 = 0
  ·rw [if_pos e0, decide_eq_false (by omega)]; exact Ev.pure _
  ·rw [if_neg e0]
   by_cases e1 : v.f0 = 1
   ·rw [e1]; exact Ev.pure _
   ·rw [decide_eq_true (by omega), show (v.f0 != 1) = true by simpa using e1]; exact Ev.pure _
theorem wrapN {n : Int} (h0 : -1000000000 ≤ n) (h : n ≤ 1000000000) : wrap64 n = n := IntWalk.wrap64_in n ⟨by omega, by omega⟩
theorem rwithin (v : S24) (n : Int) : tallowref09_within.f v.f0 v.f1 1 n = some (placedB v n) := by
 unfold tallowref09_within.f placedB
 by_cases h : v.f0 = 3
 ·rw [if_pos h, h]
  by_cases h1 : v.f1 ≥ 1
  ·rw [if_pos h1, show decide (1 ≤ v.f1) = true from decide_eq_true h1]; rfl
  ·rw [if_neg h1, show decide (1 ≤ v.f1) = false from decide_eq_false h1]; rfl
 ·rw [if_neg h, show (v.f0 == 3) = false by simpa using h]; rfl
theorem rdN {l : List S24} {i : Nat} (h : i < l.length) : rd_T24 l (i : Int) = l[i] := by
 unfold rd_T24
 rw [Int.toNat_natCast, List.getD_eq_getElem?_getD, List.getElem?_eq_getElem h]; rfl
theorem drop_rd {l : List S24} {i : Nat} (h : i < l.length) : l.drop i = rd_T24 l (i : Int) :: l.drop (i + 1) := by rw [rdN h]; exact List.drop_eq_getElem_cons h
theorem epair_l (l : List S24) (k : S24) (hl : l.length ≤ 100000) : ∀ (m i : Nat), l.length = i + 2 * m → Ev (fun f => tallowref09_pair.l0 f l (i : Int) k.f0 k.f1) (match idxP k (l.drop i) i with | some j => (j : Int) | none => 0)
 | 0, i, h => by
  refine Ev.step (fun f => ?_) (Ev.pure _)
  rw [tallowref09_pair.l0, if_neg (by omega), List.drop_eq_nil_of_le (by omega)]; rfl
 | m + 1, i, h => by
  rw [drop_rd (show i < l.length by omega), drop_rd (show i + 1 < l.length by omega)]
  by_cases hs : sameV (rd_T24 l (i : Int)) k = true
  ·refine Ev.step (fun f => ?_) (Ev.pure _)
   rw [tallowref09_pair.l0, if_pos (by omega), if_pos (by omega), if_pos (show ((rd_T24 l (i : Int)).f0 == k.f0 && (rd_T24 l (i : Int)).f1 == k.f1) = true from hs), idxP, if_pos hs]
  ·have ih := epair_l l k hl m (i + 2) (by omega)
   rw [idxP, if_neg hs]
   refine Ev.step (fun f => ?_) ih
   rw [tallowref09_pair.l0, if_pos (by omega), if_pos (by omega), if_neg (show ¬ ((rd_T24 l (i : Int)).f0 == k.f0 && (rd_T24 l (i : Int)).f1 == k.f1) = true from hs), wrapN (by omega) (by omega)]
   rfl
theorem idxP_at (k : S24) : ∀ (n : Nat) (L : List S24) (i : Nat), L.length ≤ n → idxP k L i = (idxP k L 0).map (· + i)
 | n, [], i, _ => rfl
 | n, [_], i, _ => rfl
 | 0, _ :: _ :: _, i, h => by simp at h
 | n + 1, a :: b :: r, i, h => by
  unfold idxP
  by_cases hs : sameV a k = true
  ·rw [if_pos hs, if_pos hs]; simp
  ·rw [if_neg hs, if_neg hs, idxP_at k n r (i + 2) (by simp at h; omega), idxP_at k n r (0 + 2) (by simp at h; omega)]
   cases idxP k r 0 <;> simp
   omega
theorem sameV_comm (a b : S24) : sameV a b = sameV b a := by
 unfold sameV
 rw [Bool.eq_iff_iff]
 simp only [Bool.and_eq_true, beq_iff_eq]
 constructor <;> (rintro ⟨h1, h2⟩; exact ⟨h1.symm, h2.symm⟩)
theorem any_or2 {α : Type} (p q : α → Bool) : ∀ (L : List α), (L.any fun x => p x || q x) = (L.any p || L.any q)
 | [] => rfl
 | a :: L => by
  simp only [List.any_cons, any_or2 p q L]
  cases p a <;> cases q a <;> cases L.any p <;> cases L.any q <;> rfl
def keysOk2 (n : Int) : List S24 → Bool
 | k :: v :: r => keyB k && (!nullB v && (!placedB k (n + 1) && (!((keysL r).any fun a => sameV a k) && keysOk2 n r)))
 | _ => true
theorem keysOk_eq (n : Int) : ∀ (m : Nat) (prs seen : List S24), prs.length ≤ m → keysOk n prs seen = (keysOk2 n prs && !((keysL prs).any fun k => seen.any fun a => sameV a k))
 | _, [], seen, _ => rfl
 | _, [_], seen, _ => rfl
 | 0, _ :: _ :: _, _, h => by simp at h
 | m + 1, k :: v :: r, seen, h => by
  have ih := keysOk_eq n m r (seen ++ [k]) (by simp at h; omega)
  have e1 : ((keysL r).any fun k' => (seen ++ [k]).any fun a => sameV a k') = (((keysL r).any fun k' => seen.any fun a => sameV a k') || ((keysL r).any fun a => sameV a k)) := by
   rw [← any_or2]
   congr 1
   funext x
   rw [List.any_append]
   simp [sameV_comm k x]
  have e2 : ((keysL (k :: v :: r)).any fun k' => seen.any fun a => sameV a k') = ((seen.any fun a => sameV a k) || ((keysL r).any fun k' => seen.any fun a => sameV a k')) := rfl
  rw [e2, keysOk, keysOk2, ih, e1]
  cases (seen.any fun a => sameV a k) <;> cases keyB k <;> cases nullB v <;> cases placedB k (n + 1) <;> cases ((keysL r).any fun a => sameV a k) <;> cases keysOk2 n r <;> cases ((keysL r).any fun k' => seen.any fun a => sameV a k') <;> rfl
theorem keysOk_nil (n : Int) (prs : List S24) : keysOk n prs [] = keysOk2 n prs := by
 rw [keysOk_eq n prs.length prs [] (Nat.le_refl _)]
 have : ((keysL prs).any fun k => ([] : List S24).any fun a => sameV a k) = false := by
  rw [List.any_eq_false]; intro x _; simp
 rw [this]; simp
theorem ck_l2 (l : List S24) (hl : l.length ≤ 100000) (n : Int) (i : Nat) (hi : i < l.length) (r : Bool) (hnext : Ev (fun f => tallowref09_Check.l1 f l n ((i + 2 : Nat) : Int)) r) : ∀ (m j : Nat), l.length = j + 2 * m →
  Ev (fun f => tallowref09_Check.l2 f l n (i : Int) (j : Int)) (if ((keysL (l.drop j)).any fun a => sameV a (rd_T24 l (i : Int))) = true then false else r)
 | 0, j, h => by
  rw [List.drop_eq_nil_of_le (by omega)]
  refine Ev.step (fun f => ?_) hnext
  rw [tallowref09_Check.l2, if_neg (by omega), wrapN (by omega) (by omega)]; rfl
 | m + 1, j, h => by
  rw [drop_rd (show j < l.length by omega), drop_rd (show j + 1 < l.length by omega)]
  have e1 : ((keysL (rd_T24 l (j : Int) :: rd_T24 l ((j + 1 : Nat) : Int) :: l.drop (j + 2))).any fun a => sameV a (rd_T24 l (i : Int))) = (sameV (rd_T24 l (j : Int)) (rd_T24 l (i : Int)) || ((keysL (l.drop (j + 2))).any fun a => sameV a (rd_T24 l (i : Int)))) := rfl
  rw [show j + 1 + 1 = j + 2 from rfl, e1]
  by_cases hs : sameV (rd_T24 l (j : Int)) (rd_T24 l (i : Int)) = true
  ·rw [hs, Bool.true_or, if_pos rfl]
   refine Ev.step (fun f => ?_) (Ev.pure _)
   rw [tallowref09_Check.l2, if_pos (by omega), if_pos (by omega), if_pos (by omega), if_pos (by omega), if_pos (show ((rd_T24 l (j : Int)).f0 == (rd_T24 l (i : Int)).f0 && (rd_T24 l (j : Int)).f1 == (rd_T24 l (i : Int)).f1) = true from hs)]
  ·rw [show sameV (rd_T24 l (j : Int)) (rd_T24 l (i : Int)) = false by simpa using hs, Bool.false_or]
   refine Ev.step (fun f => ?_) (ck_l2 l hl n i hi r hnext m (j + 2) (by omega))
   rw [tallowref09_Check.l2, if_pos (by omega), if_pos (by omega), if_pos (by omega), if_pos (by omega), if_neg (show ¬ ((rd_T24 l (j : Int)).f0 == (rd_T24 l (i : Int)).f0 && (rd_T24 l (j : Int)).f1 == (rd_T24 l (i : Int)).f1) = true from hs), wrapN (by omega) (by omega)]
   rfl
theorem null_iff {v : S24} (h : H.mayB v.f0 v.f1 = true) : nullB v = (v.f0 == 1) := by
 unfold nullB
 by_cases e : v.f0 = 1
 ·rw [e] at h; rw [e, may_null h]; rfl
 ·rw [show (v.f0 == 1) = false by simpa using e]; rfl
theorem ck_l1 (l : List S24) (hl : l.length ≤ 100000) (hall : ∀ i : Nat, i < l.length → H.mayB (rd_T24 l (i : Int)).f0 (rd_T24 l (i : Int)).f1 = true) (n : Nat) (hn : n ≤ 100000) : ∀ (m i : Nat), l.length = i + 2 * m →
  Ev (fun f => tallowref09_Check.l1 f l (n : Int) (i : Int)) (keysOk2 (n : Int) (l.drop i))
 | 0, i, h => by
  rw [List.drop_eq_nil_of_le (by omega)]
  refine Ev.step (fun f => ?_) (Ev.pure _)
  rw [tallowref09_Check.l1, if_neg (by omega)]; rfl
 | m + 1, i, h => by
  rw [drop_rd (show i < l.length by omega), drop_rd (show i + 1 < l.length by omega), show i + 1 + 1 = i + 2 from rfl, keysOk2]
  have hno : Ev (fun f => tallowref09_Check.j5 f l (n : Int) (i : Int) true) false := by
   refine Ev.step (fun f => ?_) (Ev.pure _)
   rw [tallowref09_Check.j5, if_pos rfl]
  have hyes : Ev (fun f => tallowref09_Check.j5 f l (n : Int) (i : Int) false) (if ((keysL (l.drop (i + 2))).any fun a => sameV a (rd_T24 l (i : Int))) = true then false else keysOk2 (n : Int) (l.drop (i + 2))) := by
   refine Ev.step (fun f => ?_) (ck_l2 l hl (n : Int) i (by omega) _ (ck_l1 l hl hall n hn m (i + 2) (by omega)) m (i + 2) (by omega))
   rw [tallowref09_Check.j5, if_neg (by decide), wrapN (by omega) (by omega)]; rfl
  refine Ev.step (g := fun f => (tallowref02_Key.f f (rd_T24 l (i : Int)).f0 (rd_T24 l (i : Int)).f1).bind fun t145 => (if t145 = true then (if (rd_T24 l ((i + 1 : Nat) : Int)).f0 = 1 then tallowref09_Check.j5 f l (n : Int) (i : Int) true else tallowref09_Check.j5 f l (n : Int) (i : Int) (placedB (rd_T24 l (i : Int)) ((n : Int) + 1))) else tallowref09_Check.j5 f l (n : Int) (i : Int) true)) (fun f => ?_) (Ev.bind (ekey _) ?_)
  ·rw [tallowref09_Check.l1, if_pos (by omega), if_pos (by omega), wrapN (n := (i : Int) + 1) (by omega) (by omega), wrapN (n := (n : Int) + 1) (by omega) (by omega), if_pos (by omega), if_pos (by omega), rwithin, Option.bind_some]
   rfl
  ·cases hk : keyB (rd_T24 l (i : Int)) with
   | false => exact Ev.neg (by decide) hno
   | true =>
    rw [Bool.true_and, null_iff (hall (i + 1) (by omega))]
    refine Ev.pos rfl ?_
    by_cases h1 : (rd_T24 l ((i + 1 : Nat) : Int)).f0 = 1
    ·rw [show ((rd_T24 l ((i + 1 : Nat) : Int)).f0 == 1) = true by simpa using h1]; exact Ev.pos h1 hno
    ·rw [show ((rd_T24 l ((i + 1 : Nat) : Int)).f0 == 1) = false by simpa using h1]
     refine Ev.neg h1 ?_
     cases hp : placedB (rd_T24 l (i : Int)) ((n : Int) + 1) with
     | true => exact hno
     | false =>
      cases ha : ((keysL (l.drop (i + 2))).any fun a => sameV a (rd_T24 l (i : Int))) with
      | true => rw [ha, if_pos rfl] at hyes; exact hyes
      | false => rw [ha, if_neg (by decide)] at hyes; simpa using hyes
def goodB (v : S24) : Bool := H.mayB v.f0 v.f1 && !(v.f0 == 0)
theorem allB_at {l : List S24} (h : allB l = true) {i : Nat} (hi : i < l.length) : goodB (rd_T24 l (i : Int)) = true := by
 unfold allB at h
 rw [rdN hi]
 exact List.all_eq_true.1 h _ (List.getElem_mem hi)
def ckPost (f : Nat) (x0 : List S24) : Option Bool := if 0 < (x0.length : Int) then (if ((rd_T24 x0 0).f0) = 1 then (tallowref09_Check.j2 f x0 false) else (tallowref09_Check.j2 f x0 (((rd_T24 x0 0).f0) != 6))) else none
theorem ck_good (l : List S24) (i : Nat) (hi : i < l.length) (hl : l.length ≤ 100000) (b : Bool) (hb : goodB (rd_T24 l (i : Int)) = b) (r : Bool) (h : b = true → Ev (fun f => tallowref09_Check.l0 f l ((i + 1 : Nat) : Int)) r) : Ev (fun f => tallowref09_Check.l0 f l (i : Int)) (if b = true then r else false) := by
 refine Ev.step (g := fun f => (tallowref02_May.f f (rd_T24 l (i : Int)).f0 (rd_T24 l (i : Int)).f1).bind fun t138 => (if t138 = true then (if (rd_T24 l (i : Int)).f0 = 0 then some false else tallowref09_Check.l0 f l ((i + 1 : Nat) : Int)) else some false)) (fun f => ?_) (Ev.bind (emay _ _) ?_)
 ·rw [tallowref09_Check.l0, if_pos (by omega), if_pos (by omega), wrapN (by omega) (by omega)]; rfl
 ·unfold goodB at hb
  cases hm : H.mayB (rd_T24 l (i : Int)).f0 (rd_T24 l (i : Int)).f1 with
  | false =>
   rw [hm, Bool.false_and] at hb
   subst hb
   exact Ev.neg (by decide) (Ev.pure _)
  | true =>
   rw [hm, Bool.true_and] at hb
   refine Ev.pos rfl ?_
   by_cases h0 : (rd_T24 l (i : Int)).f0 = 0
   ·rw [h0] at hb
    subst hb
    exact Ev.pos h0 (Ev.pure _)
   ·rw [show ((rd_T24 l (i : Int)).f0 == 0) = false by simpa using h0] at hb
    subst hb
    exact Ev.neg h0 (h rfl)
theorem ck_all (l : List S24) (hl : l.length ≤ 100000) (r : Bool) (hpost : allB l = true → Ev (fun f => ckPost f l) r) : Ev (fun f => tallowref09_Check.l0 f l 0) (if allB l = true then r else false) := by
 by_cases ha : allB l = true
 ·rw [if_pos ha]
  have key : ∀ (m i : Nat), l.length = i + m → Ev (fun f => tallowref09_Check.l0 f l (i : Int)) r := by
   intro m
   induction m with
   | zero =>
    intro i h
    refine Ev.step (fun f => ?_) (hpost ha)
    rw [tallowref09_Check.l0, if_neg (by omega)]; rfl
   | succ m ih =>
    intro i h
    have := ck_good l i (by omega) hl true (allB_at ha (by omega)) r (fun _ => ih (i + 1) (by omega))
    rwa [if_pos rfl] at this
  exact key l.length 0 (by omega)
 ·rw [if_neg ha]
  have key : ∀ (m i : Nat), l.length = i + m → (l.drop i).all goodB = false → Ev (fun f => tallowref09_Check.l0 f l (i : Int)) false := by
   intro m
   induction m with
   | zero =>
    intro i h hf
    rw [List.drop_eq_nil_of_le (by omega)] at hf; simp at hf
   | succ m ih =>
    intro i h hf
    rw [drop_rd (show i < l.length by omega), List.all_cons] at hf
    have := ck_good l i (by omega) hl (goodB (rd_T24 l (i : Int))) rfl false (fun hb => ih (i + 1) (by omega) (by rw [hb, Bool.true_and] at hf; exact hf))
    simpa using this
  exact key l.length 0 (by omega) (by simpa [allB, goodB] using ha)
theorem tmod2 (n : Nat) : Int.tmod (n : Int) 2 = ((n % 2 : Nat) : Int) := by
 rw [Int.tmod_eq_emod_of_nonneg (by omega)]; omega
theorem ck_post (l : List S24) (hl : l.length ≤ 100000) (h2 : headB l = true) (ha : allB l = true) : Ev (fun f => ckPost f l) ((nullB (rd_T24 l 0) || (rd_T24 l 0).f0 == 6) && (((prsS l).length % 2 == 0) && (!(decide (0 < arrN l) && nullB (rd_T24 l (1 + arrN l))) && keysOk (arrN l) (prsS l) []))) := by
 have hh := h2
 unfold headB at hh
 simp only [Bool.and_eq_true, decide_eq_true_eq, beq_iff_eq] at hh
 obtain ⟨g0, g1, g2, g3⟩ := hh
 obtain ⟨n, hn⟩ : ∃ n : Nat, (rd_T24 l 1).f1 = (n : Int) := ⟨(rd_T24 l 1).f1.toNat, by omega⟩
 have hN : arrN l = n := by unfold arrN; rw [hn]; rfl
 rw [hN]
 have hpl : (prsS l).length = l.length - (2 + n) := by unfold prsS; rw [hN, List.length_drop]
 have hmay : ∀ i : Nat, i < l.length → H.mayB (rd_T24 l (i : Int)).f0 (rd_T24 l (i : Int)).f1 = true := fun i hi => by
  have := allB_at ha hi
  unfold goodB at this
  rw [Bool.and_eq_true] at this
  exact this.1
 have hno : Ev (fun f => tallowref09_Check.j3 f l (n : Int) true) false := Ev.step (fun f => by rw [tallowref09_Check.j3, if_pos rfl]) (Ev.pure _)
 have hyes : (prsS l).length % 2 = 0 → Ev (fun f => tallowref09_Check.j3 f l (n : Int) false) (keysOk (n : Int) (prsS l) []) := fun he => by
  have := ck_l1 l hl hmay n (by omega) ((l.length - (2 + n)) / 2) (2 + n) (by omega)
  rw [keysOk_nil, show prsS l = l.drop (2 + n) by unfold prsS; rw [hN]]
  refine Ev.step (fun f => ?_) this
  rw [tallowref09_Check.j3, if_neg (by decide), wrapN (by omega) (by omega)]; rfl
 have h2n : Ev (fun f => tallowref09_Check.j2 f l true) false := Ev.step (fun f => by rw [tallowref09_Check.j2, if_pos rfl]) (Ev.pure _)
 have h2y : Ev (fun f => tallowref09_Check.j2 f l false) (((prsS l).length % 2 == 0) && (!(decide (0 < n) && nullB (rd_T24 l (1 + n))) && keysOk (n : Int) (prsS l) [])) := by
  refine Ev.step (g := fun f => if (((prsS l).length % 2 : Nat) : Int) = 0 then (if (n : Int) > 0 then tallowref09_Check.j3 f l (n : Int) ((rd_T24 l (1 + (n : Int))).f0 == 1) else tallowref09_Check.j3 f l (n : Int) false) else tallowref09_Check.j3 f l (n : Int) true) (fun f => ?_) ?_
  ·rw [tallowref09_Check.j2, if_neg (by decide), if_pos (by omega), hn, wrapN (n := (l.length : Int) - 2) (by omega) (by omega), wrapN (n := (l.length : Int) - 2 - (n : Int)) (by omega) (by omega), show (l.length : Int) - 2 - (n : Int) = (((prsS l).length : Nat) : Int) by omega, tmod2, wrapN (n := 1 + (n : Int)) (by omega) (by omega), if_pos (show 0 ≤ 1 + (n : Int) by omega), if_pos (show 1 + (n : Int) < (l.length : Int) by omega)]
  ·by_cases he : (prsS l).length % 2 = 0
   ·rw [show ((prsS l).length % 2 == 0) = true by simpa using he, Bool.true_and]
    refine Ev.pos (by omega) ?_
    by_cases h0 : 0 < n
    ·refine Ev.pos (by omega) ?_
     have h9 := null_iff (hmay (1 + n) (by omega))
     rw [show (((1 + n : Nat)) : Int) = 1 + (n : Int) by omega] at h9
     rw [decide_eq_true h0, Bool.true_and, h9]
     cases hv : (rd_T24 l (1 + (n : Int))).f0 == 1 with
     | true => exact hno
     | false => simpa using hyes he
    ·refine Ev.neg (by omega) ?_
     rw [decide_eq_false h0]; simpa using hyes he
   ·rw [show ((prsS l).length % 2 == 0) = false by simpa using he, Bool.false_and]
    exact Ev.neg (by omega) hno
 unfold ckPost
 refine Ev.pos (by omega) ?_
 have h9 := null_iff (hmay 0 (by omega))
 rw [show ((0 : Nat) : Int) = 0 from rfl] at h9
 rw [h9]
 by_cases h1 : (rd_T24 l 0).f0 = 1
 ·refine Ev.pos h1 ?_
  rw [h1]; simpa using h2y
 ·refine Ev.neg h1 ?_
  rw [show ((rd_T24 l 0).f0 == 1) = false by simpa using h1, Bool.false_or]
  by_cases h6 : (rd_T24 l 0).f0 = 6
  ·rw [h6]; simpa using h2y
  ·rw [show ((rd_T24 l 0).f0 != 6) = true by simpa using h6, show ((rd_T24 l 0).f0 == 6) = false by simpa using h6, Bool.false_and]; exact h2n
theorem echeck (l : List S24) (hl : l.length ≤ 100000) : Ev (fun f => tallowref09_Check.f f l) (okS l) := by
 have hno : Ev (fun f => tallowref09_Check.j0 f l true) false := Ev.step (fun f => by rw [tallowref09_Check.j0, if_pos rfl]) (Ev.pure _)
 unfold tallowref09_Check.f
 by_cases h2 : headB l = true
 ·have hh := h2
  unfold headB at hh
  simp only [Bool.and_eq_true, decide_eq_true_eq, beq_iff_eq] at hh
  obtain ⟨g0, g1, g2, g3⟩ := hh
  refine Ev.neg (by omega) (Ev.pos (by omega) (Ev.pos g1 (Ev.neg (by omega) ?_)))
  rw [wrapN (by omega) (by omega), show decide ((rd_T24 l 1).f1 > (l.length : Int) - 2) = false from decide_eq_false (by omega)]
  have := ck_all l hl _ (fun ha => ck_post l hl h2 ha)
  unfold okS
  rw [h2, Bool.true_and]
  refine Ev.step (g := fun f => tallowref09_Check.l0 f l 0) (fun f => by rw [tallowref09_Check.j0, if_neg (by decide)]) ?_
  by_cases ha : allB l = true
  ·rw [if_pos ha] at this; rw [ha, Bool.true_and]; exact this
  ·rw [if_neg ha] at this; rw [show allB l = false by simpa using ha, Bool.false_and]; exact this
 ·have hf : okS l = false := okS_head (by simpa using h2)
  rw [hf]
  by_cases h0 : (l.length : Int) < 2
  ·exact Ev.pos h0 hno
  ·refine Ev.neg h0 (Ev.pos (by omega) ?_)
   by_cases h3 : (rd_T24 l 1).f0 = 3
   ·refine Ev.pos h3 ?_
    by_cases h4 : (rd_T24 l 1).f1 < 0
    ·exact Ev.pos h4 hno
    ·refine Ev.neg h4 ?_
     have : decide ((rd_T24 l 1).f1 > wrap64 ((l.length : Int) - 2)) = true := by
      rw [wrapN (by omega) (by omega)]
      refine decide_eq_true ?_
      apply Classical.byContradiction
      intro h5
      apply h2
      unfold headB
      rw [decide_eq_true (by omega), h3, decide_eq_true (by omega), decide_eq_true (by omega)]; rfl
     rw [this]; exact hno
   ·exact Ev.neg h3 hno
end Go.Proofs.YtadhkfklkbdabaaR.G
end
