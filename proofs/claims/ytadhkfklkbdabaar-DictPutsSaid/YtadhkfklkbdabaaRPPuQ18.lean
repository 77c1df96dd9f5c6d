import Derived.Deep.RegionLaw
import Derived.Deep.Cut
import Derived.WalkSpells
import Derived.Maps.OwnOps
import Derived.Maps.OwnSet
import Derived.Maps.Views
import Derived.Maps.Own
import Derived.DeepKeys5
import Derived.Outline
import Derived.Deep.AppendLies
import Derived.Laws.CopyRow
import Derived.Laws.CopyOwn
import Derived.StillTailTactics
import Derived.Test.YtadhkfklkbdabaaRPPuQ17
import Derived.Test.YtadhkfklkbdabaaRPPuQ11
import Derived.Test.YtadhkfklkbdabaaRPPuGxF11
import Derived.Test.YtadhkfklkbdabaaRPPuGxF3
set_option linter.unusedVariables false
set_option linter.unusedSimpArgs false
section
namespace Go.Proofs.YtadhkfklkbdabaaR.G
open Go.RowKit Go.Proofs.YtadhkfklkbdabaaRW.PrintWords Go.Proofs.YtadhkfklkbdabaaRW.PrintLast Go.Proofs.YtadhkfklkbdabaaRW.PrintMore
set_option linter.unusedVariables false
set_option linter.unusedSimpArgs false
theorem okS_allB {l : List S24} (h : okS l = true) : allB l = true := by
 unfold okS at h
 simp only [Bool.and_eq_true] at h
 exact h.2.1
theorem set_mk_a {h : S24} {a q : List S24} {i : Nat} (v : S24) (hi : i < a.length) : (mk h a q).set (i + 2) v = mk h (a.set i v) q := by
 show h :: ⟨3, (a.length : Int)⟩ :: (a ++ q).set i v = h :: ⟨3, ((a.set i v).length : Int)⟩ :: (a.set i v ++ q)
 rw [List.length_set, List.set_append_left _ _ hi]
theorem set_mk_q {h : S24} {a q : List S24} (i : Nat) (v : S24) : (mk h a q).set (a.length + i + 2) v = mk h a (q.set i v) := by
 show h :: ⟨3, (a.length : Int)⟩ :: (a ++ q).set (a.length + i) v = _
 rw [List.set_append_right _ _ (by omega), Nat.add_sub_cancel_left]; rfl
theorem set_last {a : List S24} {i : Nat} (v : S24) (hi : a.length = i + 1) : a.set i v = a.take i ++ [v] := by
 rw [List.set_eq_take_append_cons_drop, if_pos (by omega), List.drop_eq_nil_of_le (by omega)]
theorem lay_not {a : List S24} {i : Nat} {v : S24} (hi : i < a.length) (hn : nullB v = false) : layS a i v = a.set i v := by
 unfold layS
 by_cases h : i + 1 < a.length
 ·rw [if_pos h]
 ·rw [if_neg h, set_last v (by omega), trimN_snoc, if_neg (by rw [hn]; decide)]
theorem eputf {h : S24} {a q : List S24} {k v : S24} (hl : a.length + q.length ≤ 1000) (he : q.length % 2 = 0) (hg : ∀ x ∈ a, H.mayB x.f0 x.f1 = true) (hv : H.mayB v.f0 v.f1 = true) :
  ∃ G, G.length ≤ 3 ∧ Ev (fun f => tallowref09_put.f f (mk h a q) k.f0 k.f1 v.f0 v.f1) (mk h (changeS a q k v).1 (changeS a q k v).2.1, G) ∧ refsL G = (changeS a q k v).2.2 := by
 have hml := mk_len h a q
 have hnv := null_iff hv
 have r1 : (rd_T24 (mk h a q) 1).f1 = (a.length : Int) := rfl
 have hw : tallowref09_within.f k.f0 k.f1 1 (a.length : Int) = some (placedB k a.length) := rwithin k _
 unfold tallowref09_put.f changeS
 by_cases hp : placedB k a.length = true
 ·rw [if_pos hp]
  obtain ⟨q1, q2, q3⟩ := placed_iff.1 hp
  obtain ⟨i, hi⟩ : ∃ i : Nat, k.f1 = (i : Int) + 1 := ⟨(k.f1 - 1).toNat, by omega⟩
  have hil : i < a.length := by omega
  rw [show (k.f1 - 1).toNat = i by omega, show k.f1 - 1 = (i : Int) by omega]
  have rk : rd_T24 (mk h a q) (1 + k.f1) = rd_T24 a (i : Int) := by rw [show 1 + k.f1 = ((i + 2 : Nat) : Int) by omega]; exact rd_mk_a hil
  refine ⟨[rd_T24 a (i : Int)], by simp, ?_, rfl⟩
  refine Ev.pos (by omega) ?_
  rw [r1]
  refine Ev.bind (Ev.of fun _ => hw.trans (congrArg some hp)) (Ev.pos rfl ?_)
  rw [wrapN (n := 1 + k.f1) (by omega) (by omega), rk]
  refine Ev.pos (by omega) (Ev.pos (by omega) ?_)
  have hset : (mk h a q).set (1 + k.f1).toNat ⟨v.f0, v.f1⟩ = mk h (a.set i v) q := by rw [show (1 + k.f1).toNat = i + 2 by omega]; exact set_mk_a v hil
  by_cases h1 : v.f0 = 1
  ·have hnt : nullB v = true := by rw [hnv]; simpa using h1
   refine Ev.pos h1 ?_
   by_cases hlast : k.f1 = (a.length : Int)
   ·refine Ev.pos hlast ?_
    have e1 : layS a i v = trimN (a.take i) := by
     unfold layS
     rw [if_neg (by omega), set_last v (by omega), trimN_snoc, if_pos hnt]
    rw [e1]
    refine Ev.bind (a := mk h (trimN (a.take i)) q) ?_ (Ev.pure _)
    unfold tallowref09_ended.f
    refine Ev.pos (by omega) ?_
    rw [r1, wrapN (by omega) (by omega), show (a.length : Int) - 1 = (i : Int) by omega]
    exact eended (by omega) hg i (by omega)
   ·refine Ev.neg hlast ?_
    rw [hset, show layS a i v = a.set i v by unfold layS; rw [if_pos (by omega)]]
    exact Ev.pure _
  ·have hnt : nullB v = false := by rw [hnv]; simpa using h1
   refine Ev.neg h1 ?_
   rw [hset, lay_not hil hnt]
   exact Ev.pure _
 ·rw [if_neg hp]
  have hpf : placedB k a.length = false := by simpa using hp
  have hpre : ∀ (G : List S24) (r : List S24 × List S24), Ev (fun f => (tallowref09_pair.f f (mk h a q) k.f0 k.f1).bind fun t247 => (if t247 > 0 then (tallowref09_put.j0 f (mk h a q) (a.length : Int) (v.f0 == 1) t247 (v.f0 == 1) k.f0 k.f1 v.f0 v.f1) else (tallowref09_put.j0 f (mk h a q) (a.length : Int) (v.f0 == 1) t247 false k.f0 k.f1 v.f0 v.f1))) r →
    Ev (fun f => if 1 < ((mk h a q).length : Int) then ((tallowref09_within.f k.f0 k.f1 1 ((rd_T24 (mk h a q) 1).f1)).bind fun t230 => (if t230 = true then (if 0 ≤ (wrap64 (1 + k.f1)) then (if (wrap64 (1 + k.f1)) < ((mk h a q).length : Int) then (if v.f0 = 1 then (if k.f1 = ((rd_T24 (mk h a q) 1).f1) then ((tallowref09_ended.f f (mk h a q)).bind fun t233 => (some (t233, (([(⟨(rd_T24 (mk h a q) (wrap64 (1 + k.f1))).f0, (rd_T24 (mk h a q) (wrap64 (1 + k.f1))).f1⟩ : S24)] : List (S24)))))) else (some (((mk h a q).set ((wrap64 (1 + k.f1)) : Int).toNat (⟨v.f0, v.f1⟩ : S24)), (([(⟨(rd_T24 (mk h a q) (wrap64 (1 + k.f1))).f0, (rd_T24 (mk h a q) (wrap64 (1 + k.f1))).f1⟩ : S24)] : List (S24)))))) else (some (((mk h a q).set ((wrap64 (1 + k.f1)) : Int).toNat (⟨v.f0, v.f1⟩ : S24)), (([(⟨(rd_T24 (mk h a q) (wrap64 (1 + k.f1))).f0, (rd_T24 (mk h a q) (wrap64 (1 + k.f1))).f1⟩ : S24)] : List (S24)))))) else (none)) else (none)) else ((tallowref09_pair.f f (mk h a q) k.f0 k.f1).bind fun t247 => (if t247 > 0 then (tallowref09_put.j0 f (mk h a q) ((rd_T24 (mk h a q) 1).f1) (v.f0 == 1) t247 (v.f0 == 1) k.f0 k.f1 v.f0 v.f1) else (tallowref09_put.j0 f (mk h a q) ((rd_T24 (mk h a q) 1).f1) (v.f0 == 1) t247 false k.f0 k.f1 v.f0 v.f1))))) else (none)) r := fun G r hr => by
   refine Ev.pos (by omega) ?_
   rw [r1]
   exact Ev.bind (Ev.of fun _ => hw.trans (congrArg some hpf)) (Ev.neg (by decide) hr)
  have hpair := epair_mk h a q k (by omega) he
  cases hi : idxP k q 0 with
  | some i =>
   have hpair : Ev (fun f => tallowref09_pair.f f (mk h a q) k.f0 k.f1) ((a.length + i + 2 : Nat) : Int) := by rw [hi] at hpair; exact hpair
   have hb := (idxP_bound _ _ q 0 i (Nat.le_refl _) hi).2
   have hev := idxP_even _ _ q 0 i (Nat.le_refl _) rfl hi
   have e1 : rd_T24 (mk h a q) (((a.length + i + 2 : Nat) : Int) + 1) = rd_T24 q ((i : Int) + 1) := by
    have := rd_mk_q (h := h) (a := a) (q := q) (i + 1)
    rw [show ((a.length + (i + 1) + 2 : Nat) : Int) = ((a.length + i + 2 : Nat) : Int) + 1 by omega, show ((i + 1 : Nat) : Int) = (i : Int) + 1 by omega] at this
    exact this
   have e0 : rd_T24 (mk h a q) ((a.length + i + 2 : Nat) : Int) = rd_T24 q (i : Int) := rd_mk_q i
   by_cases h1 : v.f0 = 1
   ·have hnt : nullB v = true := by rw [hnv]; simpa using h1
    simp only [hnt, if_true]
    refine ⟨[rd_T24 q ((i : Int) + 1), rd_T24 q (i : Int), k], by simp, ?_, rfl⟩
    refine hpre [] _ (Ev.bind hpair (Ev.pos (by omega) (Ev.step (g := fun _ => some (mk h a (takeP q i), [rd_T24 q ((i : Int) + 1), rd_T24 q (i : Int), k])) (fun f => ?_) (Ev.pure _))))
    rw [tallowref09_put.j0, if_pos (by rw [h1]; rfl), wrapN (by omega) (by omega), if_pos (by omega), if_pos (by omega), if_pos (by omega), if_pos (by omega), without_mk (by omega) he hev (by omega), Option.bind_some, e1, e0]
   ·have hnt : nullB v = false := by rw [hnv]; simpa using h1
    simp only [hnt]
    refine ⟨[rd_T24 q ((i : Int) + 1), k], by simp, ?_, rfl⟩
    refine hpre [] _ (Ev.bind hpair (Ev.pos (by omega) (Ev.step (g := fun _ => some (mk h a (q.set (i + 1) v), [rd_T24 q ((i : Int) + 1), k])) (fun f => ?_) (Ev.pure _))))
    rw [tallowref09_put.j0, if_neg (by simpa using h1), if_pos (by omega), wrapN (by omega) (by omega), if_pos (by omega), if_pos (by omega), e1, show (((a.length + i + 2 : Nat) : Int) + 1).toNat = a.length + (i + 1) + 2 by omega]
    exact congrArg (fun z => some (z, [rd_T24 q ((i : Int) + 1), k])) (set_mk_q (i + 1) v)
  | none =>
   have hpair : Ev (fun f => tallowref09_pair.f f (mk h a q) k.f0 k.f1) (0 : Int) := by rw [hi] at hpair; exact hpair
   by_cases h1 : v.f0 = 1
   ·have hnt : nullB v = true := by rw [hnv]; simpa using h1
    simp only [hnt, if_true]
    refine ⟨[k], by simp, ?_, rfl⟩
    refine hpre [] _ (Ev.bind hpair (Ev.neg (by decide) (Ev.step (g := fun _ => some (mk h a q, [k])) (fun f => ?_) (Ev.pure _))))
    rw [tallowref09_put.j0, if_neg (by decide), if_neg (by decide), if_pos (by rw [h1]; rfl)]
   ·have hnt : nullB v = false := by rw [hnv]; simpa using h1
    simp only [hnt]
    have hw2 : tallowref09_within.f k.f0 k.f1 (wrap64 ((a.length : Int) + 1)) (wrap64 ((a.length : Int) + 1)) = some (placedB k (a.length + 1)) := by
     rw [wrapN (by omega) (by omega)]
     unfold tallowref09_within.f
     by_cases h3 : k.f0 = 3
     ·have hq := placed_no hpf
      rw [if_pos h3]
      by_cases hge : k.f1 ≥ (a.length : Int) + 1
      ·rw [if_pos hge]
       congr 1
       rw [Bool.eq_iff_iff, decide_eq_true_eq, placed_iff]
       constructor
       ·intro z; exact ⟨h3, by omega, by omega⟩
       ·intro z; exact z.2.2
      ·rw [if_neg hge, placed_not (fun z => hge (by omega))]
     ·rw [if_neg h3, placed_not (fun z => h3 z.1)]
    by_cases hp1 : placedB k (a.length + 1) = true
    ·refine ⟨[], by simp, ?_, by rw [if_neg (by decide), if_pos hp1]; rfl⟩
     rw [if_neg (by decide), if_pos hp1]
     have hgr := egrow h (q.length + 1) (a ++ [v]) q (by omega) he (by rw [List.length_append, List.length_singleton]; omega)
     refine hpre [] _ (Ev.bind hpair (Ev.neg (by decide) (Ev.step (fun f => ?_) hgr)))
     rw [tallowref09_put.j0, if_neg (by decide), if_neg (by decide), if_neg (by simpa using h1), hw2, Option.bind_some, if_pos hp1, behind_mk v (by omega), Option.bind_some]
    ·refine ⟨[], by simp, ?_, by rw [if_neg (by decide), if_neg hp1]; rfl⟩
     rw [if_neg (by decide), if_neg hp1]
     refine hpre [] _ (Ev.bind hpair (Ev.neg (by decide) (Ev.step (g := fun _ => some (mk h a (q ++ [k, v]), [])) (fun f => ?_) (Ev.pure _))))
     rw [tallowref09_put.j0, if_neg (by decide), if_neg (by decide), if_neg (by simpa using h1), hw2, Option.bind_some, if_neg hp1, Option.bind_some, if_pos (by simp; omega)]
     show some (h :: ⟨3, (a.length : Int)⟩ :: ((a ++ q) ++ [k, v]), _) = some (h :: ⟨3, (a.length : Int)⟩ :: (a ++ (q ++ [k, v])), _)
     rw [List.append_assoc]
theorem eref2 (v : S24) : Ev (fun k => tallowref02_Ref.f k v.f0 v.f1) (refB v) := by
 unfold tallowref02_Ref.f
 refine Ev.bind (emay _ _) ?_
 unfold refB
 cases hm : H.mayB v.f0 v.f1 with
 | false => rw [Bool.and_false]; exact Ev.neg (by decide) (Ev.pure _)
 | true => rw [Bool.and_true]; exact Ev.pos rfl (Ev.pure _)
theorem eobjects (G : List S24) (hl : G.length ≤ 1000) : Ev (fun f => tallowref09_objects.f f G) (refsL G) := by
 unfold tallowref09_objects.f
 have key : ∀ (m i : Nat) (acc : List S24), G.length = i + m → acc.length ≤ i → Ev (fun f => tallowref09_objects.l0 f G acc (i : Int)) (acc ++ refsL (G.drop i)) := by
  intro m
  induction m with
  | zero =>
   intro i acc h ha
   refine Ev.step (g := fun _ => some acc) (fun f => ?_) ?_
   ·rw [tallowref09_objects.l0, if_neg (by omega)]
   ·rw [List.drop_eq_nil_of_le (by omega)]
    show Ev _ (acc ++ [])
    rw [List.append_nil]; exact Ev.pure _
  | succ m ih =>
   intro i acc h ha
   rw [drop_rd (show i < G.length by omega), refsL_snoc]
   refine Ev.step (g := fun f => (tallowref02_Ref.f f (rd_T24 G (i : Int)).f0 (rd_T24 G (i : Int)).f1).bind fun t290 => (if t290 = true then tallowref09_objects.l0 f G (acc ++ [rd_T24 G (i : Int)]) ((i + 1 : Nat) : Int) else tallowref09_objects.l0 f G acc ((i + 1 : Nat) : Int))) (fun f => ?_) (Ev.bind (eref2 _) ?_)
   ·rw [tallowref09_objects.l0, if_pos (by omega), if_pos (by omega), if_pos (by omega), wrapN (by omega) (by omega)]; rfl
   ·cases hr : refB (rd_T24 G (i : Int)) with
    | true =>
     rw [if_pos rfl]
     have := ih (i + 1) (acc ++ [rd_T24 G (i : Int)]) (by omega) (by rw [List.length_append, List.length_singleton]; omega)
     rw [List.append_assoc] at this
     exact Ev.pos rfl this
    | false =>
     rw [if_neg (by decide)]
     exact Ev.neg (by decide) (ih (i + 1) acc (by omega) (by omega))
 exact key G.length 0 [] (by omega) (by simp)
theorem mk_of {l : List S24} (h : okS l = true) : l = mk (rd_T24 l 0) (arrS l) (prsS l) := by
 obtain ⟨a1, a2, a3, a4⟩ := arrN_int (headB_of h)
 have hb := headB_of h
 unfold headB at hb
 simp only [Bool.and_eq_true, decide_eq_true_eq, beq_iff_eq] at hb
 match l, a1, a2, a3, hb with
 | [], _, a2, _, _ => simp at a2
 | [_], _, a2, _, _ => simp at a2; omega
 | x :: y :: L, a1, a2, a3, hb =>
  have hy : y = ⟨3, ((arrS (x :: y :: L)).length : Int)⟩ := s24_eq hb.2.1 (by show y.f1 = _; rw [a3]; exact a1.symm)
  have hL : L = arrS (x :: y :: L) ++ prsS (x :: y :: L) := by
   unfold arrS prsS
   rw [show 2 + arrN (x :: y :: L) = arrN (x :: y :: L) + 1 + 1 by omega]
   show L = L.take _ ++ L.drop _
   rw [List.take_append_drop]
  show x :: y :: L = x :: ⟨3, ((arrS (x :: y :: L)).length : Int)⟩ :: (arrS (x :: y :: L) ++ prsS (x :: y :: L))
  rw [← hL, ← hy]
theorem eput (l : List S24) (k v : S24) (hl : l.length ≤ 1000) : Ev (fun f => tallowref09_Put.f f l k.f0 k.f1 v.f0 v.f1) (putS l k v) := by
 have hno : ∀ r : List S24 × List S24 × Int, r = ([], [], 2) → Ev (fun f => tallowref09_Put.j0 f l true k.f0 k.f1 v.f0 v.f1) r := fun r hr => by
  subst hr
  exact Ev.step (fun f => by rw [tallowref09_Put.j0, if_pos rfl]) (Ev.pure _)
 unfold tallowref09_Put.f
 refine Ev.bind (echeck l (by omega)) ?_
 cases h : okS l with
 | false => exact Ev.neg (by decide) (hno _ (putS_bad h))
 | true =>
  refine Ev.pos rfl (Ev.bind (emay _ _) ?_)
  cases hm : H.mayB k.f0 k.f1 with
  | false => exact Ev.neg (by decide) (hno _ (putS_may (by rw [hm]; rfl)))
  | true =>
   refine Ev.pos rfl (Ev.bind (emay _ _) ?_)
   cases hm2 : H.mayB v.f0 v.f1 with
   | false => exact Ev.neg (by decide) (hno _ (putS_may (by rw [hm, hm2]; rfl)))
   | true =>
    refine Ev.pos rfl ?_
    cases hz : v.f0 == 0 with
    | true => exact hno _ (putS_may (by rw [hm, hm2, hz]; rfl))
    | false =>
     have hmy : (H.mayB k.f0 k.f1 && (H.mayB v.f0 v.f1 && !(v.f0 == 0))) = true := by rw [hm, hm2, hz]; rfl
     refine Ev.step (g := fun f => (tallowref02_Key.f f k.f0 k.f1).bind fun t300 => (if t300 = true then ((tallowref09_put.f f l k.f0 k.f1 v.f0 v.f1).bind fun bt304 => ((tallowref09_objects.f f bt304.2).bind fun t310 => (some (bt304.1, t310, 0)))) else (some ([], [], 9)))) (fun f => ?_) (Ev.bind (ekey k) ?_)
     ·rw [tallowref09_Put.j0, if_neg (by decide), if_pos (by simp; omega), List.nil_append]
     ·cases hky : keyB k with
      | false => rw [putS_key h hmy hky]; exact Ev.neg (by decide) (Ev.pure _)
      | true =>
       obtain ⟨a1, a2, a3, a4⟩ := arrN_int (headB_of h)
       have hmay : ∀ x ∈ arrS l, H.mayB x.f0 x.f1 = true := fun x hx => by
        have := okS_allB h
        unfold allB at this
        have := List.all_eq_true.1 this x (by unfold arrS at hx; exact List.mem_of_mem_drop (List.mem_of_mem_take hx))
        rw [Bool.and_eq_true] at this
        exact this.1
       obtain ⟨G, hGl, hG, hr⟩ := eputf (h := rd_T24 l 0) (a := arrS l) (q := prsS l) (k := k) (v := v) (by omega) (okS_even2 h) hmay hm2
       rw [← mk_of h] at hG
       rw [putS_ok h hmy hky, ← hr]
       exact Ev.pos rfl (Ev.bind hG (Ev.bind (eobjects G (by omega)) (Ev.pure _)))
theorem puts_l0 (x0 : List S24) (hx : x0.length ≤ 1000) : ∀ (m i : Nat) (b : List S24), b.length = i + m → b.length ≤ 100000 → Ev (fun f => tallowlaw09_DictPuts.l0 f x0 x0 b (i : Int)) true
 | 0, i, b, h, hb => by
  refine Ev.step (g := fun f => (tallowref02_Values.f f x0 x0).bind fun t399 => (if t399 = true then ((tallowlaw09_works.f f).bind fun t400 => (some t400)) else (some false))) (fun f => ?_) (Ev.bind (evalues x0 (by omega)) (Ev.pos rfl (Ev.bind eworks (Ev.pure _))))
  rw [tallowlaw09_DictPuts.l0, if_neg (by omega)]
 | m + 1, i, b, h, hb => by
  refine Ev.step (fun f => ?_) (puts_l0 x0 hx m (i + 1) (b.set i ⟨77, 0⟩) (by rw [List.length_set]; omega) (by rw [List.length_set]; omega))
  rw [tallowlaw09_DictPuts.l0, if_pos (by omega), if_pos (by omega), Int.toNat_natCast, wrapN (by omega) (by omega)]; rfl
theorem putS_len (l : List S24) (k v : S24) (hl : l.length ≤ 1000) : (putS l k v).1.length ≤ 10000 ∧ (putS l k v).2.1.length ≤ 10000 := by
 cases h : okS l with
 | false => rw [putS_bad h]; simp
 | true =>
  cases hm : (H.mayB k.f0 k.f1 && (H.mayB v.f0 v.f1 && !(v.f0 == 0))) with
  | false => rw [putS_may hm]; simp
  | true =>
   cases hk : keyB k with
   | false => rw [putS_key h hm hk]; simp
   | true =>
    obtain ⟨a1, a2, a3, a4⟩ := arrN_int (headB_of h)
    have h1 := changeS_len (arrS l) (prsS l) k v
    have h2 := gone_len (arrS l) (prsS l) k v
    rw [putS_ok h hm hk]
    simp only [List.length_append, List.length_cons, List.length_nil]
    omega
theorem dictPuts (l : List S24) (k0 k1 v0 v1 : Int) (ok0 : l.length * 16 ≤ 140737488351232 ∧ ∀ y ∈ l, (Lit.int .i64 y.f0).wf = true ∧ (Lit.int .i64 y.f1).wf = true) (ok1 : (Lit.int .i64 k0).wf = true ∧ (Lit.int .i64 k1).wf = true) (ok2 : (Lit.int .i64 v0).wf = true ∧ (Lit.int .i64 v1).wf = true) : ∃ k, tallowlaw09_DictPuts.f k l k0 k1 v0 v1 = some true := by
 have h := okV ok0.2
 refine Ev.at (f := fun k => tallowlaw09_DictPuts.f k l k0 k1 v0 v1) ?_
 unfold tallowlaw09_DictPuts.f
 have hl : (l.take 60).length ≤ 60 := by rw [List.length_take]; omega
 have hp := pre_take (b := true) h rfl
 have ht2 : (l.take 60).take 60 = l.take 60 := by rw [List.take_take]; rfl
 have e1 : tallowlaw09_own.f (l.take 60) = some (l.take 60) := by rw [own_eq, ht2]
 have e0 : tallowlaw09_own.f l = some (l.take 60) := own_eq l
 obtain ⟨t, ht⟩ : ∃ t, t = l.take 60 := ⟨_, rfl⟩
 rw [← ht] at hl hp e0 e1
 have e3 : dict_Put.f t k0 k1 v0 v1 = some (putS t ⟨k0, k1⟩ ⟨v0, v1⟩) := if_pos hp
 obtain ⟨l1, l2⟩ := putS_len t ⟨k0, k1⟩ ⟨v0, v1⟩ (by omega)
 refine Ev.bind (Ev.of fun _ => e0) (Ev.bind (Ev.of fun _ => e1) (Ev.bind (Ev.of fun _ => e3) (Ev.bind (eput t ⟨k0, k1⟩ ⟨v0, v1⟩ (by omega)) (Ev.bind (evalues _ (by omega)) (Ev.pos rfl (Ev.bind (evalues _ (by omega)) (Ev.pos rfl ?_)))))))
 refine Ev.step (fun f => ?_) (puts_l0 t (by omega) _ 0 (putS t ⟨k0, k1⟩ ⟨v0, v1⟩).1 (Nat.zero_add _).symm (by omega))
 rw [tallowlaw09_DictPuts.j0, if_neg (by simp)]; rfl
end Go.Proofs.YtadhkfklkbdabaaR.G
end
