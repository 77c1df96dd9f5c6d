import Derived.Deep.RegionLaw
import Derived.Deep.Cut
import Derived.WalkSpells
import Derived.Maps.OwnOps
import Derived.Maps.OwnSet
import Derived.Maps.Views
import Derived.Maps.Own
import Derived.DeepKeys5
import Derived.Outline
import Derived.Deep.AppendLies
import Derived.Laws.CopyRow
import Derived.Laws.CopyOwn
import Derived.StillTailTactics
import Derived.Test.YtadhkfklkbdabaaRPOrD18
import Derived.Test.YtadhkfklkbdabaaRPOrGx0
import Derived.Test.YtadhkfklkbdabaaRPOrGxE24
set_option linter.unusedVariables false
set_option linter.unusedSimpArgs false
section
namespace Go.Proofs.YtadhkfklkbdabaaR.G
open Go.RowKit Go.Proofs.YtadhkfklkbdabaaRW.PrintWords Go.Proofs.YtadhkfklkbdabaaRW.PrintLast Go.Proofs.YtadhkfklkbdabaaRW.PrintMore
set_option linter.unusedVariables false
set_option linter.unusedSimpArgs false
def Ev {α : Type} (f : Nat → Option α) (r : α) : Prop := ∃ K, ∀ k, K ≤ k → f k = some r
theorem Ev.pure {α : Type} (r : α) : Ev (fun _ => some r) r := ⟨0, fun _ _ => rfl⟩
theorem Ev.up {α : Type} {f : Nat → Option α} {r : α} (hm : ∀ k, LeO (f k) (f (k + 1))) {k : Nat} (h : f k = some r) : Ev f r := by
 refine ⟨k, fun m hm2 => ?_⟩
 induction m with
 | zero =>
  obtain rfl : k = 0 := by omega
  exact h
 | succ m ih =>
  by_cases e : k = m + 1
  ·subst e; exact h
  ·exact hm m r (ih (by omega))
theorem Ev.bind {α β : Type} {f : Nat → Option α} {g : Nat → α → Option β} {a : α} {r : β} (h1 : Ev f a) (h2 : Ev (fun k => g k a) r) : Ev (fun k => (f k).bind (g k)) r := by
 obtain ⟨K1, h1⟩ := h1
 obtain ⟨K2, h2⟩ := h2
 exact ⟨max K1 K2, fun k hk => by show (f k).bind (g k) = some r; rw [h1 k (by omega), Option.bind_some]; exact h2 k (by omega)⟩
theorem Ev.step {α : Type} {f g : Nat → Option α} {r : α} (h : ∀ k, f (k + 1) = g k) (h2 : Ev g r) : Ev f r := by
 obtain ⟨K, h2⟩ := h2
 refine ⟨K + 1, fun k hk => ?_⟩
 obtain ⟨k, rfl⟩ : ∃ m, k = m + 1 := ⟨k - 1, by omega⟩
 rw [h]; exact h2 k (by omega)
theorem Ev.congr {α : Type} {f g : Nat → Option α} {r : α} (h : ∀ k, f k = g k) (h2 : Ev g r) : Ev f r := by
 obtain ⟨K, h2⟩ := h2
 exact ⟨K, fun k hk => by rw [h]; exact h2 k hk⟩
theorem Ev.pos {α : Type} {f g : Nat → Option α} {r : α} {c : Prop} [Decidable c] (hc : c) (h : Ev f r) : Ev (fun k => if c then f k else g k) r := Ev.congr (fun _ => if_pos hc) h
theorem Ev.at {α : Type} {f : Nat → Option α} {r : α} (h : Ev f r) : ∃ k, f k = some r := by
 obtain ⟨K, h⟩ := h
 exact ⟨K, h K (Nat.le_refl _)⟩
theorem wrapN {n : Int} (h0 : -1000000000 ≤ n) (h : n ≤ 1000000000) : wrap64 n = n := IntWalk.wrap64_in n ⟨by omega, by omega⟩
theorem rdN {l : List S24} {i : Nat} (h : i < l.length) : rd_T24 l (i : Int) = l[i] := by
 unfold rd_T24
 rw [Int.toNat_natCast, List.getD_eq_getElem?_getD, List.getElem?_eq_getElem h]; rfl
theorem drop_rd {l : List S24} {i : Nat} (h : i < l.length) : l.drop i = rd_T24 l (i : Int) :: l.drop (i + 1) := by rw [rdN h]; exact List.drop_eq_getElem_cons h
theorem sameV_comm (a b : S24) : sameV a b = sameV b a := by
 unfold sameV
 rw [Bool.eq_iff_iff]
 simp only [Bool.and_eq_true, beq_iff_eq]
 constructor <;> (rintro ⟨h1, h2⟩; exact ⟨h1.symm, h2.symm⟩)
theorem any_or2 {α : Type} (p q : α → Bool) : ∀ (L : List α), (L.any fun x => p x || q x) = (L.any p || L.any q)
 | [] => rfl
 | a :: L => by
  simp only [List.any_cons, any_or2 p q L]
  cases p a <;> cases q a <;> cases L.any p <;> cases L.any q <;> rfl
def keysOk2 (n : Int) : List S24 → Bool
 | k :: v :: r => keyB k && (!nullB v && (!placedB k (n + 1) && (!((keysL r).any fun a => sameV a k) && keysOk2 n r)))
 | _ => true
theorem keysOk_eq (n : Int) : ∀ (m : Nat) (prs seen : List S24), prs.length ≤ m → keysOk n prs seen = (keysOk2 n prs && !((keysL prs).any fun k => seen.any fun a => sameV a k))
 | _, [], seen, _ => rfl
 | _, [_], seen, _ => rfl
 | 0, _ :: _ :: _, _, h => by simp at h
 | m + 1, k :: v :: r, seen, h => by
  have ih := keysOk_eq n m r (seen ++ [k]) (by simp at h; omega)
  have e1 : ((keysL r).any fun k' => (seen ++ [k]).any fun a => sameV a k') = (((keysL r).any fun k' => seen.any fun a => sameV a k') || ((keysL r).any fun a => sameV a k)) := by
   rw [← any_or2]
   congr 1
   funext x
   rw [List.any_append]
   simp [sameV_comm k x]
  have e2 : ((keysL (k :: v :: r)).any fun k' => seen.any fun a => sameV a k') = ((seen.any fun a => sameV a k) || ((keysL r).any fun k' => seen.any fun a => sameV a k')) := rfl
  rw [e2, keysOk, keysOk2, ih, e1]
  cases (seen.any fun a => sameV a k) <;> cases keyB k <;> cases nullB v <;> cases placedB k (n + 1) <;> cases ((keysL r).any fun a => sameV a k) <;> cases keysOk2 n r <;> cases ((keysL r).any fun k' => seen.any fun a => sameV a k') <;> rfl
theorem keysOk_nil (n : Int) (prs : List S24) : keysOk n prs [] = keysOk2 n prs := by
 rw [keysOk_eq n prs.length prs [] (Nat.le_refl _)]
 have : ((keysL prs).any fun k => ([] : List S24).any fun a => sameV a k) = false := by
  rw [List.any_eq_false]; intro x _; simp
 rw [this]; simp
def goodB (v : S24) : Bool := H.mayB v.f0 v.f1 && !(v.f0 == 0)
end Go.Proofs.YtadhkfklkbdabaaR.G
end
