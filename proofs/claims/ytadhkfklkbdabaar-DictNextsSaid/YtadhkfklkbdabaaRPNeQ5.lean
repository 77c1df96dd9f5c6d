import Derived.Deep.RegionLaw
import Derived.Deep.Cut
import Derived.WalkSpells
import Derived.Maps.OwnOps
import Derived.Maps.OwnSet
import Derived.Maps.Views
import Derived.Maps.Own
import Derived.DeepKeys5
import Derived.Outline
import Derived.Deep.AppendLies
import Derived.Laws.CopyRow
import Derived.Laws.CopyOwn
import Derived.StillTailTactics
import Derived.Test.YtadhkfklkbdabaaRPNeQ3
import Derived.Test.YtadhkfklkbdabaaRPNeGxF29
import Derived.Test.YtadhkfklkbdabaaRPNeGxF7
set_option linter.unusedVariables false
set_option linter.unusedSimpArgs false
section
namespace Go.Proofs.YtadhkfklkbdabaaR.G
open Go.RowKit Go.Proofs.YtadhkfklkbdabaaRW.PrintWords Go.Proofs.YtadhkfklkbdabaaRW.PrintLast Go.Proofs.YtadhkfklkbdabaaRW.PrintMore
set_option linter.unusedVariables false
set_option linter.unusedSimpArgs false
theorem keys_at (n : Int) (k : S24) : ∀ (m : Nat) (L : List S24) (i0 i : Nat), L.length ≤ m → keysOk2 n L = true → idxP k L i0 = some i → keyB k = true ∧ placedB k (n + 1) = false
 | _, [], i0, i, _, _, h => by simp [idxP] at h
 | _, [_], i0, i, _, _, h => by simp [idxP] at h
 | 0, _ :: _ :: _, i0, i, hm, _, h => by simp at hm
 | m + 1, a :: b :: r, i0, i, hm, hk, h => by
  rw [keysOk2] at hk
  simp only [Bool.and_eq_true, Bool.not_eq_true'] at hk
  obtain ⟨h1, h2, h3, h4, h5⟩ := hk
  unfold idxP at h
  by_cases hs : sameV a k = true
  ·have := sameV_iff.1 hs
   subst this
   exact ⟨h1, h3⟩
  ·rw [if_neg hs] at h
   exact keys_at n k m r (i0 + 2) i (by simp at hm; omega) h5 h
theorem okS_keys {l : List S24} (h : okS l = true) : keysOk2 (arrN l) (prsS l) = true := by
 unfold okS at h
 simp only [Bool.and_eq_true] at h
 rw [← keysOk_nil]
 exact h.2.2.2.2.2
theorem okS_all {l : List S24} (h : okS l = true) : allB l = true := by
 unfold okS at h
 simp only [Bool.and_eq_true] at h
 exact h.2.1
theorem placed_mono {k : S24} {n : Int} (h : placedB k (n + 1) = false) : placedB k n = false := by
 unfold placedB at h ⊢
 cases h3 : k.f0 == 3 with
 | false => rfl
 | true =>
  rw [h3] at h
  simp only [Bool.true_and, Bool.and_eq_false_iff, decide_eq_false_iff_not] at h ⊢
  omega
def endS (l : List S24) (be : Nat) : Int × Int × Int := if be < (prsS l).length then ((rd_T24 (prsS l) be).f0, (rd_T24 (prsS l) be).f1, 0) else (1, 0, 0)
def out3 (x : S24 × Int) : Int × Int × Int := (x.1.f0, x.1.f1, x.2)
theorem next_end (l : List S24) (hl : l.length ≤ 100000) (h : okS l = true) (be : Nat) (hbe : be ≤ 100000) : Ev (fun f => tallowref09_Next.l0 f l (arrN l : Int) ((2 + arrN l + be : Nat) : Int)) (endS l be) := by
 obtain ⟨a1, a2, a3, a4⟩ := arrN_int (headB_of h)
 refine Ev.step (g := fun _ => some (endS l be)) (fun f => ?_) (Ev.pure _)
 rw [tallowref09_Next.l0, wrapN (by omega) (by omega), if_neg (by omega)]
 unfold endS
 by_cases hb : be < (prsS l).length
 ·rw [if_pos hb, if_pos (by omega), if_pos (by omega), show rd_T24 (prsS l) (be : Int) = rd_T24 l ((2 + arrN l + be : Nat) : Int) from rd_prs be]
 ·rw [if_neg hb, if_neg (by omega)]; rfl
theorem next_loop (l : List S24) (hl : l.length ≤ 100000) (h : okS l = true) : ∀ (m fr : Nat), arrN l = fr + m →
  Ev (fun f => tallowref09_Next.l0 f l (arrN l : Int) ((2 + fr : Nat) : Int)) (match firstN ((arrS l).drop fr) fr with | some j => (3, (j : Int) + 1, 0) | none => endS l 0)
 | 0, fr, hf => by
  obtain ⟨a1, a2, a3, a4⟩ := arrN_int (headB_of h)
  rw [List.drop_eq_nil_of_le (by omega)]
  have := next_end l hl h 0 (by omega)
  rw [show 2 + arrN l + 0 = 2 + fr by omega] at this
  exact this
 | m + 1, fr, hf => by
  obtain ⟨a1, a2, a3, a4⟩ := arrN_int (headB_of h)
  have e1 := rd_arr (headB_of h) (x := (fr : Int)) (by omega) (by omega)
  rw [show 2 + (fr : Int) = ((2 + fr : Nat) : Int) by omega] at e1
  have hm := allB_at (okS_all h) (show 2 + fr < l.length by omega)
  unfold goodB at hm
  rw [Bool.and_eq_true] at hm
  have h9 := null_iff hm.1
  rw [drop_rd (show fr < (arrS l).length by omega), firstN, e1, h9]
  by_cases h1 : (rd_T24 l ((2 + fr : Nat) : Int)).f0 = 1
  ·rw [h1, if_pos (by decide)]
   refine Ev.step (fun f => ?_) (next_loop l hl h m (fr + 1) (by omega))
   rw [tallowref09_Next.l0, wrapN (n := 2 + (arrN l : Int)) (by omega) (by omega), if_pos (by omega), if_pos (by omega), if_pos (by omega), if_pos h1, wrapN (by omega) (by omega)]
   rfl
  ·rw [show ((rd_T24 l ((2 + fr : Nat) : Int)).f0 == 1) = false by simpa using h1, if_neg (by decide)]
   refine Ev.step (g := fun _ => some (3, (fr : Int) + 1, 0)) (fun f => ?_) (Ev.pure _)
   rw [tallowref09_Next.l0, wrapN (n := 2 + (arrN l : Int)) (by omega) (by omega), if_pos (by omega), if_pos (by omega), if_pos (by omega), if_neg h1, wrapN (by omega) (by omega)]
   show some ((3 : Int), ((2 + fr : Nat) : Int) - 1, (0 : Int)) = _
   rw [show ((2 + fr : Nat) : Int) - 1 = (fr : Int) + 1 by omega]
theorem tail_out (l : List S24) (fr be : Nat) : out3 (tailS l fr be) = (match firstN ((arrS l).drop fr) fr with | some j => (3, (j : Int) + 1, 0) | none => endS l be) := by
 unfold tailS endS out3
 cases firstN ((arrS l).drop fr) fr with
 | some j => rfl
 | none =>
  dsimp only
  by_cases hb : be < (prsS l).length
  ·rw [if_pos hb, if_pos hb]
  ·rw [if_neg hb, if_neg hb]
theorem enext (l : List S24) (k : S24) (hl : l.length ≤ 100000) : Ev (fun f => tallowref09_Next.f f l k.f0 k.f1) (out3 (nextS l k)) := by
 have hno : ∀ r : S24 × Int, r = (⟨0, 0⟩, 2) → Ev (fun f => tallowref09_Next.j0 f l true k.f0 k.f1) (out3 r) := fun r hr => by
  subst hr
  exact Ev.step (fun f => by rw [tallowref09_Next.j0, if_pos rfl]; rfl) (Ev.pure _)
 unfold tallowref09_Next.f
 refine Ev.bind (echeck l hl) ?_
 cases h : okS l with
 | false => exact Ev.neg (by decide) (hno _ (nextS_bad h))
 | true =>
  obtain ⟨a1, a2, a3, a4⟩ := arrN_int (headB_of h)
  refine Ev.pos rfl (Ev.bind (emay _ _) ?_)
  cases hm : H.mayB k.f0 k.f1 with
  | false => exact Ev.neg (by decide) (hno _ (nextS_may (by rw [hm]; rfl)))
  | true =>
   refine Ev.pos rfl ?_
   cases hz : k.f0 == 0 with
   | true => exact hno _ (nextS_may (by rw [hm, hz]; rfl))
   | false =>
    have hg : (H.mayB k.f0 k.f1 && !(k.f0 == 0)) = true := by rw [hm, hz]; rfl
    have hnul := null_iff hm
    refine Ev.step (g := fun f => if placedB k (arrN l) = true then tallowref09_Next.j1 f l (arrN l : Int) (wrap64 (2 + k.f1)) else (if k.f0 = 1 then tallowref09_Next.j1 f l (arrN l : Int) 2 else (tallowref09_pair.f f l k.f0 k.f1).bind fun t576 => (if t576 = 0 then some (0, 0, 5) else tallowref09_Next.j1 f l (arrN l : Int) (wrap64 (t576 + 2))))) (fun f => ?_) ?_
    ·rw [tallowref09_Next.j0, if_neg (by decide), if_pos (by omega), rwithin, Option.bind_some, ← a1]
    ·have hj1 : ∀ (x : Int) (r : Int × Int × Int), Ev (fun f => tallowref09_Next.l0 f l (arrN l : Int) x) r → Ev (fun f => tallowref09_Next.j1 f l (arrN l : Int) x) r := fun x r hr => Ev.step (fun f => by rw [tallowref09_Next.j1]) hr
     cases hp : placedB k (arrN l) with
     | true =>
      obtain ⟨b1, b2⟩ := placed_bd hp
      have hi : idxP k (prsS l) 0 = none := by
       cases hi : idxP k (prsS l) 0 with
       | none => rfl
       | some i =>
        have := placed_mono (keys_at _ k _ _ 0 i (Nat.le_refl _) (okS_keys h) hi).2
        rw [hp] at this; cases this
      rw [nextS_placed h hg hi hp, tail_out]
      refine Ev.pos rfl (hj1 _ _ ?_)
      rw [wrapN (by omega) (by omega), show 2 + k.f1 = ((2 + k.f1.toNat : Nat) : Int) by omega]
      exact next_loop l hl h (arrN l - k.f1.toNat) k.f1.toNat (by omega)
     | false =>
      refine Ev.neg (by decide) ?_
      by_cases h1 : k.f0 = 1
      ·have hn : nullB k = true := by rw [hnul]; simpa using h1
       have hi : idxP k (prsS l) 0 = none := by
        cases hi : idxP k (prsS l) 0 with
        | none => rfl
        | some i =>
         have := (keys_at _ k _ _ 0 i (Nat.le_refl _) (okS_keys h) hi).1
         unfold keyB at this
         rw [h1] at this
         simp at this
       rw [nextS_null h hg hi hp hn, tail_out]
       exact Ev.pos h1 (hj1 _ _ (next_loop l hl h (arrN l) 0 (by omega)))
      ·refine Ev.neg h1 (Ev.bind (pair_rel l k hl h) ?_)
       cases hi : idxP k (prsS l) 0 with
       | none =>
        rw [nextS_no h hg hi hp (by rw [hnul]; simpa using h1)]
        exact Ev.pos rfl (Ev.pure _)
       | some i =>
        have hb := idxP_lt k _ _ _ hi
        rw [nextS_pair h hg hi, tail_out]
        dsimp only
        refine Ev.neg (by omega) (hj1 _ _ ?_)
        rw [wrapN (by omega) (by omega), List.drop_eq_nil_of_le (by omega), show ((2 + arrN l + i : Nat) : Int) + 2 = ((2 + arrN l + (i + 2) : Nat) : Int) by omega]
        exact next_end l hl h (i + 2) (by omega)
theorem dictNexts (l : List S24) (k0 k1 : Int) (ok0 : l.length * 16 ≤ 140737488351232 ∧ ∀ y ∈ l, (Lit.int .i64 y.f0).wf = true ∧ (Lit.int .i64 y.f1).wf = true) (ok1 : (Lit.int .i64 k0).wf = true ∧ (Lit.int .i64 k1).wf = true) : ∃ k, tallowlaw09_DictNexts.f k l k0 k1 = some true := by
 have h := okV ok0.2
 have hk := okK ok1
 refine Ev.at (f := fun k => tallowlaw09_DictNexts.f k l k0 k1) ?_
 unfold tallowlaw09_DictNexts.f
 have hl : (l.take 60).length ≤ 100000 := by rw [List.length_take]; omega
 have hp2 := pre_take (b := inV ⟨k0, k1⟩) h hk
 obtain ⟨t, ht⟩ : ∃ t, t = l.take 60 := ⟨_, rfl⟩
 rw [← ht] at hl hp2
 have e0 : tallowlaw09_own.f l = some t := by rw [ht, own_eq]
 have e3 : dict_Next.f t k0 k1 = some (out3 (nextS t ⟨k0, k1⟩)) := if_pos hp2
 refine Ev.bind (Ev.of fun _ => e0) (Ev.bind (Ev.of fun _ => e3) (Ev.bind (enext t ⟨k0, k1⟩ hl) (Ev.pos (by simp) (Ev.pos rfl ?_))))
 exact Ev.bind eworks (Ev.pure _)
end Go.Proofs.YtadhkfklkbdabaaR.G
end
