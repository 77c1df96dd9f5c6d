import Derived.Deep.RegionLaw
import Derived.Deep.Cut
import Derived.WalkSpells
import Derived.Maps.OwnOps
import Derived.Maps.OwnSet
import Derived.Maps.Views
import Derived.Maps.Own
import Derived.DeepKeys5
import Derived.Outline
import Derived.Deep.AppendLies
import Derived.Laws.CopyRow
import Derived.Laws.CopyOwn
import Derived.StillTailTactics
import Derived.Test.YtadhkfklkbdabaaRPOrQ12
import Derived.Test.YtadhkfklkbdabaaRPOrGxF18
set_option linter.unusedVariables false
set_option linter.unusedSimpArgs false
section
namespace Go.Proofs.YtadhkfklkbdabaaR.G
open Go.RowKit Go.Proofs.YtadhkfklkbdabaaRW.PrintWords Go.Proofs.YtadhkfklkbdabaaRW.PrintLast Go.Proofs.YtadhkfklkbdabaaRW.PrintMore
set_option linter.unusedVariables false
set_option linter.unusedSimpArgs false
theorem cntI_app (n : Int) : ∀ (l m : List Int), cntI n (l ++ m) = cntI n l + cntI n m
 | [], m => (Nat.zero_add _).symm
 | x :: l, m => by show (if x = n then 1 else 0) + cntI n (l ++ m) = (if x = n then 1 else 0) + cntI n l + cntI n m; rw [cntI_app n l m]; omega
theorem cntI_mem {n : Int} : ∀ {l : List Int}, n ∈ l ↔ 0 < cntI n l
 | [] => ⟨fun h => by (cases h), fun h => absurd h (Nat.lt_irrefl 0)⟩
 | x :: l => by
  rw [List.mem_cons, cntI_mem (l := l)]
  show _ ↔ 0 < (if x = n then 1 else 0) + cntI n l
  by_cases e : x = n
  ·rw [if_pos e]; constructor
   ·intro _; omega
   ·intro _; exact .inl e.symm
  ·rw [if_neg e]; constructor
   ·rintro (h | h)
    ·exact (e h.symm).elim
    ·omega
   ·intro h; exact .inr (by omega)
theorem rdI_lt {l : List Int} {i : Nat} (h : i < l.length) : ∃ A B, l = A ++ rd l (i : Int) :: B ∧ A.length = i := by
 refine ⟨l.take i, l.drop (i + 1), ?_, by rw [List.length_take]; omega⟩
 rw [← rdI h, List.take_append_drop]
theorem cntI_set (n : Int) {l : List Int} {i : Nat} (v : Int) (h : i < l.length) : cntI n (l.set i v) + (if rd l (i : Int) = n then 1 else 0) = cntI n l + (if v = n then 1 else 0) := by
 obtain ⟨A, B, e, hl⟩ := rdI_lt h
 obtain ⟨x, hx⟩ : ∃ x, rd l (i : Int) = x := ⟨_, rfl⟩
 rw [hx] at e ⊢
 rw [e, ← hl, set_app, cntI_app, cntI_app]
 show cntI n A + ((if v = n then 1 else 0) + cntI n B) + (if x = n then 1 else 0) = cntI n A + ((if x = n then 1 else 0) + cntI n B) + (if v = n then 1 else 0)
 omega
theorem rdI_set {l : List Int} {i : Nat} (v : Int) (h : i < l.length) (j : Nat) : rd (l.set i v) (j : Int) = if i = j then v else rd l (j : Int) := by
 unfold rd
 rw [Int.toNat_natCast, List.getD_eq_getElem?_getD, List.getD_eq_getElem?_getD, List.getElem?_set]
 by_cases e : i = j
 ·subst e; rw [if_pos rfl, if_pos rfl, if_pos h]; rfl
 ·rw [if_neg e, if_neg e]
theorem cntI_swap (n : Int) {l : List Int} {a b : Nat} (ha : a < l.length) (hb : b < l.length) : cntI n ((l.set a (rd l (b : Int))).set b (rd l (a : Int))) = cntI n l := by
 have h1 := cntI_set n (rd l (b : Int)) ha
 have h2 := cntI_set n (l := l.set a (rd l (b : Int))) (rd l (a : Int)) (show b < (l.set a (rd l (b : Int))).length by rw [List.length_set]; exact hb)
 have h3 : rd (l.set a (rd l (b : Int))) (b : Int) = rd l (b : Int) := by
  rw [rdI_set _ ha]
  by_cases e : a = b
  ·rw [if_pos e]
  ·rw [if_neg e]
 rw [h3] at h2
 omega
structure Ord (m : Nat) (o : List Int) : Prop where
 len : o.length = m
 cnt : ∀ v, cntI v o = if 1 ≤ v ∧ v ≤ (m : Int) then 1 else 0
theorem Ord.mem {m : Nat} {o : List Int} (h : Ord m o) (v : Int) : v ∈ o ↔ 1 ≤ v ∧ v ≤ (m : Int) := by
 rw [cntI_mem, h.cnt]
 by_cases e : 1 ≤ v ∧ v ≤ (m : Int)
 ·rw [if_pos e]; simp [e]
 ·rw [if_neg e]; simp [e]
theorem rdI_mem {l : List Int} {i : Nat} (h : i < l.length) : rd l (i : Int) ∈ l := by
 obtain ⟨A, B, e, _⟩ := rdI_lt h
 rw [e]
 obtain ⟨x, hx⟩ : ∃ x, rd l (i : Int) = x := ⟨_, rfl⟩
 rw [← e, hx, e, hx]
 exact List.mem_append_right _ List.mem_cons_self
theorem rdI_take {l : List Int} {i : Nat} (h : i < l.length) : l.take (i + 1) = l.take i ++ [rd l (i : Int)] := by
 rw [List.take_add_one]
 unfold rd
 rw [Int.toNat_natCast, List.getD_eq_getElem?_getD, List.getElem?_eq_getElem h]; rfl
theorem Ord.apart {m : Nat} {o : List Int} (h : Ord m o) {i : Nat} (hi : i < o.length) : rd o (i : Int) ∉ o.take i ∧ rd o (i : Int) ∉ o.drop (i + 1) := by
 have e := List.take_append_drop i o
 rw [rdI hi] at e
 obtain ⟨x, hx⟩ : ∃ x, rd o (i : Int) = x := ⟨_, rfl⟩
 rw [hx] at e ⊢
 have h1 := h.cnt x
 have h2 : cntI x o = cntI x (o.take i) + (1 + cntI x (o.drop (i + 1))) := by
  have h3 := congrArg (cntI x) e
  rw [cntI_app] at h3
  rw [← h3]
  show _ + ((if x = x then 1 else 0) + _) = _
  rw [if_pos rfl]
 constructor
 ·intro hm
  have := cntI_mem.1 hm
  split at h1 <;> omega
 ·intro hm
  have := cntI_mem.1 hm
  split at h1 <;> omega
theorem eis (l : List S24) (hl : l.length ≤ 100000) : Ev (fun f => tallowlaw09_is.f f l l) true := by
 unfold tallowlaw09_is.f
 refine Ev.pos rfl ?_
 have key : ∀ (m i : Nat), l.length = i + m → Ev (fun f => tallowlaw09_is.l0 f l l (i : Int)) true := by
  intro m
  induction m with
  | zero =>
   intro i h
   refine Ev.step (fun f => ?_) (Ev.pure _)
   rw [tallowlaw09_is.l0, if_neg (by omega)]
  | succ m ih =>
   intro i h
   refine Ev.step (fun f => ?_) (ih (i + 1) (by omega))
   rw [tallowlaw09_is.l0, if_pos (by omega), if_pos (by omega), if_pos (by omega), if_neg (by simp), wrapN (by omega) (by omega)]; rfl
 exact key l.length 0 (by omega)
theorem full_row {a : List S24} {P : List (S24 × S24)} {m : Nat} (t : TOk a P) (h1 : ∀ k, sem a P k ≠ ⟨1, 0⟩ → k.f0 = 3 ∧ 1 ≤ k.f1 ∧ k.f1 ≤ (m : Int)) (h2 : ∀ j : Int, 1 ≤ j → j ≤ (m : Int) → sem a P ⟨3, j⟩ ≠ ⟨1, 0⟩) : a.length = m ∧ P = [] := by
 have hge : m ≤ a.length := by
  apply Classical.byContradiction
  intro hlt
  have h3 := h2 ((a.length : Int) + 1) (by omega) (by omega)
  rw [sem_not (by rw [placed_not (fun h => by have := h.2.2; simp at this; omega)]; decide)] at h3
  apply h3
  refine asc_no fun y hy e => placed_no (t.nx y hy) ?_
  rw [e]
  exact ⟨rfl, by show 1 ≤ (a.length : Int) + 1; omega, by show (a.length : Int) + 1 ≤ _; omega⟩
 have hle : a.length ≤ m := by
  cases hn : a.length with
  | zero => omega
  | succ n =>
   have h3 := t.tw.la n hn
   have h4 := h1 ⟨3, (n : Int) + 1⟩ (fun e => by
    unfold sem at e
    rw [if_pos (placed_iff.2 ⟨rfl, by show 1 ≤ (n : Int) + 1; omega, by show (n : Int) + 1 ≤ _; omega⟩), show (⟨3, (n : Int) + 1⟩ : S24).f1 - 1 = (n : Int) by show (n : Int) + 1 - 1 = _; omega] at e
    rw [e] at h3; cases h3)
   have := h4.2.2
   simp at this
   omega
 refine ⟨by omega, ?_⟩
 cases P with
 | nil => rfl
 | cons y P =>
  exfalso
  obtain ⟨g1, g2, g3, g4⟩ := t.tw.gp y List.mem_cons_self
  have h3 : sem a (y :: P) y.1 = y.2 := by rw [sem_not (by rw [g4]; decide)]; exact asc_mem t.tw.nd (show (y.1, y.2) ∈ y :: P from List.mem_cons_self)
  have h4 := h1 y.1 (by rw [h3]; intro e; rw [e] at g3; cases g3)
  exact placed_no g4 ⟨h4.1, h4.2.1, by omega⟩
def mxL : Int → List Int → Int
 | x, [] => x
 | x, y :: l => mxL (mx x y) l
theorem mx_ge (x y : Int) : x ≤ mx x y ∧ y ≤ mx x y ∧ (mx x y = x ∨ mx x y = y) := by unfold mx; split <;> omega
theorem mxL_ge : ∀ (l : List Int) (x : Int), x ≤ mxL x l ∧ (∀ y ∈ l, y ≤ mxL x l) ∧ (mxL x l = x ∨ mxL x l ∈ l)
 | [], x => ⟨Int.le_refl _, fun y hy => by (cases hy), .inl rfl⟩
 | z :: l, x => by
  obtain ⟨h1, h2, h3⟩ := mxL_ge l (mx x z)
  obtain ⟨g1, g2, g3⟩ := mx_ge x z
  refine ⟨Int.le_trans g1 h1, fun y hy => ?_, ?_⟩
  ·rcases List.mem_cons.1 hy with rfl | hy
   ·exact Int.le_trans g2 h1
   ·exact h2 y hy
  ·show mxL (mx x z) l = x ∨ mxL (mx x z) l ∈ z :: l
   rcases h3 with h3 | h3
   ·rcases g3 with g3 | g3
    ·left; rw [h3, g3]
    ·right; rw [h3, g3]; exact List.mem_cons_self
   ·right; exact List.mem_cons_of_mem _ h3
theorem row_max {a : List S24} {R : List Int} (t : TOk a []) (h : ∀ k, sem a [] k ≠ ⟨1, 0⟩ ↔ k.f0 = 3 ∧ k.f1 ∈ R) : (a.length : Int) = mxL 0 R := by
 obtain ⟨m1, m2, m3⟩ := mxL_ge R 0
 have hle : mxL 0 R ≤ (a.length : Int) := by
  rcases m3 with m3 | m3
  ·omega
  ·have h3 := (h ⟨3, mxL 0 R⟩).2 ⟨rfl, m3⟩
   by_cases hp : placedB ⟨3, mxL 0 R⟩ a.length = true
   ·have := (placed_iff.1 hp).2.2
    exact this
   ·rw [sem_not hp] at h3; exact (h3 rfl).elim
 have hge : (a.length : Int) ≤ mxL 0 R := by
  cases hn : a.length with
  | zero => omega
  | succ n =>
   have h3 := t.tw.la n hn
   have h4 := (h ⟨3, (n : Int) + 1⟩).1 (fun e => by
    unfold sem at e
    rw [if_pos (placed_iff.2 ⟨rfl, by show 1 ≤ (n : Int) + 1; omega, by show (n : Int) + 1 ≤ _; omega⟩), show (⟨3, (n : Int) + 1⟩ : S24).f1 - 1 = (n : Int) by show (n : Int) + 1 - 1 = _; omega] at e
    rw [e] at h3; cases h3)
   have := m2 _ h4.2
   simp at this ⊢
   omega
 omega
end Go.Proofs.YtadhkfklkbdabaaR.G
end
