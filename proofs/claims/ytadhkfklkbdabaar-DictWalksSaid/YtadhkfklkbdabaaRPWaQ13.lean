import Derived.Deep.RegionLaw
import Derived.Deep.Cut
import Derived.WalkSpells
import Derived.Maps.OwnOps
import Derived.Maps.OwnSet
import Derived.Maps.Views
import Derived.Maps.Own
import Derived.DeepKeys5
import Derived.Outline
import Derived.Deep.AppendLies
import Derived.Laws.CopyRow
import Derived.Laws.CopyOwn
import Derived.StillTailTactics
import Derived.Test.YtadhkfklkbdabaaRPWaQ11
set_option linter.unusedVariables false
set_option linter.unusedSimpArgs false
section
namespace Go.Proofs.YtadhkfklkbdabaaR.G
open Go.RowKit Go.Proofs.YtadhkfklkbdabaaRW.PrintWords Go.Proofs.YtadhkfklkbdabaaRW.PrintLast Go.Proofs.YtadhkfklkbdabaaRW.PrintMore
set_option linter.unusedVariables false
set_option linter.unusedSimpArgs false
def arrE : List S24 → Nat → List S24
 | [], _ => []
 | v :: r, i => if nullB v = true then arrE r (i + 1) else ⟨3, (i : Int) + 1⟩ :: arrE r (i + 1)
def Ch (l : List S24) : S24 → List S24 → Prop
 | cur, [] => nextS l cur = (⟨1, 0⟩, 0)
 | cur, e :: r => nextS l cur = (e, 0) ∧ Ch l e r
theorem fIdx_at {x : S24 × S24} {B : List (S24 × S24)} : ∀ A : List (S24 × S24), ((A ++ x :: B).map (·.1)).Nodup → fIdx x.1 (A ++ x :: B) = some A.length
 | [], _ => by show (if sameV x.1 x.1 = true then _ else _) = _; rw [if_pos (sameV_self _)]; rfl
 | y :: A, h => by
  rw [List.cons_append, List.map_cons, List.nodup_cons] at h
  show (if sameV y.1 x.1 = true then _ else (fIdx x.1 (A ++ x :: B)).map (· + 1)) = _
  rw [if_neg, fIdx_at A h.2]; · rfl
  intro hs
  exact h.1 (by rw [sameV_iff.1 hs]; exact List.mem_map.2 ⟨x, List.mem_append_right _ List.mem_cons_self, rfl⟩)
theorem ch_keys {a : List S24} {P : List (S24 × S24)} (t : TOk a P) : ∀ (B A : List (S24 × S24)) (cur : S24), P = A ++ B → nextS (tabS ⟨1, 0⟩ a P) cur = tailS (tabS ⟨1, 0⟩ a P) a.length (2 * A.length) → Ch (tabS ⟨1, 0⟩ a P) cur (B.map (·.1))
 | [], A, cur, e, h => by
  show nextS _ cur = _
  rw [h, tail_end (by rw [arrS_tab, List.drop_eq_nil_of_le (Nat.le_refl _)]; rfl) (by rw [prsS_tab, flatP_len, e]; simp)]
 | x :: B, A, cur, e, h => by
  have hxm : x ∈ P := by rw [e]; exact List.mem_append_right _ List.mem_cons_self
  refine ⟨?_, ?_⟩
  ·rw [h, tail_pair (by rw [arrS_tab, List.drop_eq_nil_of_le (Nat.le_refl _)]; rfl) (by rw [prsS_tab, flatP_len, e]; simp), prsS_tab]
   rw [e, rd_flat0]
  ·have hg := good_key (t.tw.gp x hxm).1
   have hi : idxP x.1 (prsS (tabS ⟨1, 0⟩ a P)) 0 = some (2 * A.length) := by
    rw [prsS_tab, idxP_flat, e, fIdx_at A (by rw [← e]; exact t.tw.nd)]
    show some (0 + 2 * A.length) = _
    rw [Nat.zero_add]
   refine ch_keys t B (A ++ [x]) x.1 (by rw [e, List.append_assoc]; rfl) ?_
   rw [nextS_pair (okS_tab t) hg hi, arrN_tab, List.length_append, List.length_singleton, show 2 * (A.length + 1) = 2 * A.length + 2 by omega]
theorem idx_placed {a : List S24} {P : List (S24 × S24)} (t : TOk a P) {k : S24} (hp : placedB k a.length = true) : idxP k (prsS (tabS ⟨1, 0⟩ a P)) 0 = none := by
 rw [prsS_tab, idxP_flat]
 cases hf : fIdx k P with
 | none => rfl
 | some j =>
  obtain ⟨A, x, B, e, hl, hk1⟩ := fIdx_some hf
  have := (t.tw.gp x (by rw [e]; exact List.mem_append_right _ List.mem_cons_self)).2.2.2
  rw [hk1, hp] at this; cases this
theorem ch_arr {a : List S24} {P : List (S24 × S24)} (t : TOk a P) : ∀ (m fr : Nat) (cur : S24), a.length = fr + m → nextS (tabS ⟨1, 0⟩ a P) cur = tailS (tabS ⟨1, 0⟩ a P) fr 0 → Ch (tabS ⟨1, 0⟩ a P) cur (arrE (a.drop fr) fr ++ P.map (·.1))
 | 0, fr, cur, hf, h => by
  rw [List.drop_eq_nil_of_le (by omega)]
  exact ch_keys t P [] cur rfl (by rw [h, show a.length = fr by omega]; rfl)
 | m + 1, fr, cur, hf, h => by
  rw [drop_rd (show fr < a.length by omega), arrE]
  by_cases hn : nullB (rd_T24 a (fr : Int)) = true
  ·rw [if_pos hn]
   refine ch_arr t m (fr + 1) cur (by omega) (h.trans ?_)
   unfold tailS
   rw [arrS_tab, drop_rd (show fr < a.length by omega), firstN, if_pos hn]
  ·rw [if_neg hn]
   refine ⟨?_, ?_⟩
   ·rw [h, tail_some (j := fr)]
    rw [arrS_tab, drop_rd (show fr < a.length by omega), firstN, if_neg hn]
   ·have hp : placedB ⟨3, (fr : Int) + 1⟩ a.length = true := placed_iff.2 ⟨rfl, by show 1 ≤ (fr : Int) + 1; omega, by show (fr : Int) + 1 ≤ _; omega⟩
    refine ch_arr t m (fr + 1) ⟨3, (fr : Int) + 1⟩ (by omega) ?_
    rw [nextS_placed (okS_tab t) rfl (idx_placed t hp) (by rw [arrN_tab]; exact hp), show (⟨3, (fr : Int) + 1⟩ : S24).f1.toNat = fr + 1 by show ((fr : Int) + 1).toNat = _; omega]
def allE (a : List S24) (P : List (S24 × S24)) : List S24 := arrE a 0 ++ P.map (·.1)
theorem ch_all {a : List S24} {P : List (S24 × S24)} (t : TOk a P) : Ch (tabS ⟨1, 0⟩ a P) ⟨1, 0⟩ (allE a P) := by
 refine ch_arr t a.length 0 ⟨1, 0⟩ (by omega) ?_
 rw [nextS_null (okS_tab t) rfl _ _ rfl]
 ·rw [prsS_tab, idxP_flat]
  cases hf : fIdx ⟨1, 0⟩ P with
  | none => rfl
  | some j =>
   obtain ⟨A, x, B, e, hl, hk1⟩ := fIdx_some hf
   have := (t.tw.gp x (by rw [e]; exact List.mem_append_right _ List.mem_cons_self)).1
   rw [hk1] at this; cases this
 ·rfl
theorem mem_arrE {e : S24} : ∀ (L : List S24) (fr : Nat), e ∈ arrE L fr ↔ ∃ j : Nat, j < L.length ∧ e = ⟨3, ((fr + j : Nat) : Int) + 1⟩ ∧ nullB (rd_T24 L (j : Int)) = false
 | [], fr => ⟨fun h => by (cases h), fun ⟨j, h, _⟩ => by simp at h⟩
 | v :: r, fr => by
  have ih := mem_arrE (e := e) r (fr + 1)
  have hs : ∀ j : Nat, rd_T24 (v :: r) ((j + 1 : Nat) : Int) = rd_T24 r (j : Int) := fun j => by unfold rd_T24; rw [Int.toNat_natCast, Int.toNat_natCast]; rfl
  have h0 : rd_T24 (v :: r) ((0 : Nat) : Int) = v := rfl
  have step : (∃ j : Nat, j < (v :: r).length ∧ e = ⟨3, ((fr + j : Nat) : Int) + 1⟩ ∧ nullB (rd_T24 (v :: r) (j : Int)) = false) ↔ ((e = ⟨3, (fr : Int) + 1⟩ ∧ nullB v = false) ∨ ∃ j : Nat, j < r.length ∧ e = ⟨3, ((fr + 1 + j : Nat) : Int) + 1⟩ ∧ nullB (rd_T24 r (j : Int)) = false) := by
   constructor
   ·rintro ⟨j, h1, h2, h3⟩
    cases j with
    | zero => exact .inl ⟨h2, h3⟩
    | succ j => exact .inr ⟨j, by simp at h1; exact h1, by rw [h2, show fr + (j + 1) = fr + 1 + j by omega], by rw [← hs j]; exact h3⟩
   ·rintro (⟨h1, h2⟩ | ⟨j, h1, h2, h3⟩)
    ·exact ⟨0, by simp, h1, h2⟩
    ·exact ⟨j + 1, by simp; exact h1, by rw [h2, show fr + (j + 1) = fr + 1 + j by omega], by rw [hs j]; exact h3⟩
  rw [step, ← ih, arrE]
  cases hn : nullB v with
  | true => rw [if_pos rfl]; simp
  | false => rw [if_neg (by decide), List.mem_cons]; simp
theorem nodup_arrE : ∀ (L : List S24) (fr : Nat), (arrE L fr).Nodup
 | [], fr => List.nodup_nil
 | v :: r, fr => by
  rw [arrE]
  by_cases hn : nullB v = true
  ·rw [if_pos hn]; exact nodup_arrE r (fr + 1)
  ·rw [if_neg hn, List.nodup_cons]
   refine ⟨fun hm => ?_, nodup_arrE r (fr + 1)⟩
   obtain ⟨j, h1, h2, _⟩ := (mem_arrE r (fr + 1)).1 hm
   injection h2 with _ h2
   omega
theorem len_arrE : ∀ (L : List S24) (fr : Nat), (arrE L fr).length ≤ L.length
 | [], fr => Nat.le_refl _
 | v :: r, fr => by
  rw [arrE]
  have := len_arrE r (fr + 1)
  by_cases hn : nullB v = true
  ·rw [if_pos hn, List.length_cons]; omega
  ·rw [if_neg hn, List.length_cons, List.length_cons]; omega
theorem mem_allE {a : List S24} {P : List (S24 × S24)} (t : TOk a P) (e : S24) : e ∈ allE a P ↔ sem a P e ≠ ⟨1, 0⟩ := by
 unfold allE
 rw [List.mem_append]
 constructor
 ·rintro (h | h) h2
  ·obtain ⟨j, h1, h3, h4⟩ := (mem_arrE a 0).1 h
   rw [Nat.zero_add] at h3
   have hp : placedB e a.length = true := by rw [h3]; exact placed_iff.2 ⟨rfl, by show 1 ≤ (j : Int) + 1; omega, by show (j : Int) + 1 ≤ _; omega⟩
   unfold sem at h2
   rw [if_pos hp, h3, show (⟨3, (j : Int) + 1⟩ : S24).f1 - 1 = (j : Int) by show (j : Int) + 1 - 1 = _; omega] at h2
   rw [h2] at h4; cases h4
  ·obtain ⟨x, hx, rfl⟩ := List.mem_map.1 h
   obtain ⟨g1, g2, g3, g4⟩ := t.tw.gp x hx
   rw [sem_not (by rw [g4]; decide), asc_mem t.tw.nd (show (x.1, x.2) ∈ P from hx)] at h2
   rw [h2] at g3; cases g3
 ·intro h
  by_cases hp : placedB e a.length = true
  ·left
   obtain ⟨q1, q2, q3⟩ := placed_iff.1 hp
   refine (mem_arrE a 0).2 ⟨(e.f1 - 1).toNat, by omega, s24_eq q1 (by show e.f1 = ((0 + (e.f1 - 1).toNat : Nat) : Int) + 1; omega), ?_⟩
   rw [← rd_idx (by omega)]
   unfold sem at h
   rw [if_pos hp] at h
   cases hn : nullB (rd_T24 a (e.f1 - 1)) with
   | false => rfl
   | true => exact (h (null_eq hn)).elim
  ·right
   rw [sem_not hp] at h
   apply Classical.byContradiction
   intro h2
   exact h (asc_no fun y hy e2 => h2 (by rw [← e2]; exact List.mem_map.2 ⟨y, hy, rfl⟩))
theorem nodup_allE {a : List S24} {P : List (S24 × S24)} (t : TOk a P) : (allE a P).Nodup := by
 unfold allE
 rw [List.nodup_append]
 refine ⟨nodup_arrE _ _, t.tw.nd, fun x hx y hy e => ?_⟩
 obtain ⟨j, h1, h3, _⟩ := (mem_arrE a 0).1 hx
 obtain ⟨z, hz, h4⟩ := List.mem_map.1 hy
 have := placed_no (t.tw.gp z hz).2.2.2
 rw [h4, ← e, h3] at this
 apply this
 exact ⟨rfl, by show 1 ≤ ((0 + j : Nat) : Int) + 1; omega, by show ((0 + j : Nat) : Int) + 1 ≤ _; omega⟩
theorem len_allE (a : List S24) (P : List (S24 × S24)) : (allE a P).length ≤ a.length + P.length := by
 unfold allE
 rw [List.length_append, List.length_map]
 have := len_arrE a 0
 omega
theorem in_allE {a : List S24} {P : List (S24 × S24)} (h : AllV a P) (hl : a.length ≤ 10000) {e : S24} (he : e ∈ allE a P) : inV e = true := by
 unfold allE at he
 rcases List.mem_append.1 he with he | he
 ·obtain ⟨j, h1, h3, _⟩ := (mem_arrE a 0).1 he
  rw [h3]; exact inV_small (by omega) (by omega)
 ·obtain ⟨x, hx, rfl⟩ := List.mem_map.1 he
  exact (h.pv x hx).1
theorem ne_allE {a : List S24} {P : List (S24 × S24)} (t : TOk a P) {e : S24} (he : e ∈ allE a P) : e ≠ ⟨1, 0⟩ := by
 unfold allE at he
 rcases List.mem_append.1 he with he | he
 ·obtain ⟨j, h1, h3, _⟩ := (mem_arrE a 0).1 he
  rw [h3]; intro h; injection h with h; cases h
 ·obtain ⟨x, hx, rfl⟩ := List.mem_map.1 he
  intro h
  have := (t.tw.gp x hx).1
  rw [h] at this; cases this
end Go.Proofs.YtadhkfklkbdabaaR.G
end
