import Derived.Deep.RegionLaw
import Derived.Deep.Cut
import Derived.WalkSpells
import Derived.Maps.OwnOps
import Derived.Maps.OwnSet
import Derived.Maps.Views
import Derived.Maps.Own
import Derived.DeepKeys5
import Derived.Outline
import Derived.Deep.AppendLies
import Derived.Laws.CopyRow
import Derived.Laws.CopyOwn
import Derived.StillTailTactics
import Derived.Test.YtadhkfklkbdabaaRPHoQ11
import Derived.Test.YtadhkfklkbdabaaRPHoGxF6
set_option linter.unusedVariables false
set_option linter.unusedSimpArgs false
section
namespace Go.Proofs.YtadhkfklkbdabaaR.G
open Go.RowKit Go.Proofs.YtadhkfklkbdabaaRW.PrintWords Go.Proofs.YtadhkfklkbdabaaRW.PrintLast Go.Proofs.YtadhkfklkbdabaaRW.PrintMore
set_option linter.unusedVariables false
set_option linter.unusedSimpArgs false
def refIds (l : List S24) : List Int := (l.filter refB).map (·.f1)
def W1 (x : S24) : Nat := if refB x = true then 1 else 0
def Wn (n : Int) (x : S24) : Nat := if refB x = true ∧ x.f1 = n then 1 else 0
theorem W1_no (x : S24) (h : refB x = false) : W1 x = 0 := by unfold W1; rw [h]; rfl
theorem Wn_no (n : Int) (x : S24) (h : refB x = false) : Wn n x = 0 := by unfold Wn; rw [h, if_neg (by simp)]
theorem refIds_cons (x : S24) (l : List S24) : refIds (x :: l) = if refB x = true then x.f1 :: refIds l else refIds l := by
 unfold refIds
 rw [List.filter_cons]
 by_cases h : refB x = true
 ·rw [if_pos h, if_pos h]; rfl
 ·rw [if_neg h, if_neg h]
theorem refIds_len : ∀ l : List S24, (refIds l).length = wA W1 l
 | [] => rfl
 | x :: l => by
  rw [refIds_cons]
  show _ = W1 x + wA W1 l
  unfold W1
  by_cases h : refB x = true
  ·rw [if_pos h, if_pos h, List.length_cons, refIds_len l]; unfold W1; omega
  ·rw [if_neg h, if_neg h, refIds_len l]; unfold W1; omega
def cntI (n : Int) : List Int → Nat
 | [] => 0
 | x :: l => (if x = n then 1 else 0) + cntI n l
theorem refIds_cnt (n : Int) : ∀ l : List S24, cntI n (refIds l) = wA (Wn n) l
 | [] => rfl
 | x :: l => by
  rw [refIds_cons]
  show _ = Wn n x + wA (Wn n) l
  unfold Wn
  by_cases h : refB x = true
  ·rw [if_pos h]
   show (if x.f1 = n then 1 else 0) + cntI n (refIds l) = _
   rw [refIds_cnt n l]
   unfold Wn
   by_cases e : x.f1 = n
   ·rw [if_pos e, if_pos ⟨h, e⟩]
   ·rw [if_neg e, if_neg (fun z => e z.2)]
  ·rw [if_neg h, if_neg (fun z => h z.1), refIds_cnt n l]
   unfold Wn
   omega
theorem refIds_le (l : List S24) : (refIds l).length ≤ l.length := by unfold refIds; rw [List.length_map]; exact List.length_filter_le _ _
theorem erefs (l : List S24) (hl : l.length ≤ 100000) : Ev (fun f => val_Refs.f f l) (refIds l) := by
 unfold val_Refs.f
 have key : ∀ (m i : Nat) (acc : List Int), l.length = i + m → acc.length ≤ i → Ev (fun f => val_Refs.l0 f acc l (l.length : Int) (i : Int)) (acc ++ refIds (l.drop i)) := by
  intro m
  induction m with
  | zero =>
   intro i acc h ha
   refine Ev.step (g := fun _ => some acc) (fun f => ?_) ?_
   ·rw [val_Refs.l0, if_neg (by omega)]
   ·rw [List.drop_eq_nil_of_le (by omega)]
    show Ev _ (acc ++ [])
    rw [List.append_nil]; exact Ev.pure _
  | succ m ih =>
   intro i acc h ha
   rw [drop_rd (show i < l.length by omega), refIds_cons]
   cases hr : refB (rd_T24 l (i : Int)) with
   | true =>
    rw [if_pos rfl]
    have := ih (i + 1) (acc ++ [(rd_T24 l (i : Int)).f1]) (by omega) (by rw [List.length_append, List.length_singleton]; omega)
    rw [List.append_assoc] at this
    refine Ev.step (fun f => ?_) this
    rw [val_Refs.l0, if_pos (by omega), if_pos (by omega), if_pos (by omega), ref_f, Option.bind_some, hr, if_pos rfl, if_pos (by omega), wrapN (by omega) (by omega)]; rfl
   | false =>
    rw [if_neg (by decide)]
    refine Ev.step (fun f => ?_) (ih (i + 1) acc (by omega) (by omega))
    rw [val_Refs.l0, if_pos (by omega), if_pos (by omega), if_pos (by omega), ref_f, Option.bind_some, hr, if_neg (by decide), wrapN (by omega) (by omega)]; rfl
 exact key l.length 0 [] (by omega) (by simp)
theorem rdI {l : List Int} {i : Nat} (h : i < l.length) : l.drop i = rd l (i : Int) :: l.drop (i + 1) := by
 rw [List.drop_eq_getElem_cons h]
 congr 1
 unfold rd
 rw [Int.toNat_natCast, List.getD_eq_getElem?_getD, List.getElem?_eq_getElem h]; rfl
theorem etimes (l : List S24) (n : Int) (hl : l.length ≤ 100000) : Ev (fun f => tallowlaw09_times.f f l n) ((wA (Wn n) l : Nat) : Int) := by
 unfold tallowlaw09_times.f
 refine Ev.bind (erefs l hl) ?_
 have hle := refIds_le l
 obtain ⟨ids, hids⟩ : ∃ ids, ids = refIds l := ⟨_, rfl⟩
 rw [← refIds_cnt, ← hids]
 rw [← hids] at hle
 have key : ∀ (m i c : Nat), ids.length = i + m → c ≤ i → Ev (fun f => tallowlaw09_times.l0 f n (c : Int) ids (i : Int)) (((c + cntI n (ids.drop i) : Nat)) : Int) := by
  intro m
  induction m with
  | zero =>
   intro i c h hc
   refine Ev.step (g := fun _ => some (c : Int)) (fun f => ?_) ?_
   ·rw [tallowlaw09_times.l0, if_neg (by omega)]
   ·rw [List.drop_eq_nil_of_le (by omega)]; exact Ev.pure _
  | succ m ih =>
   intro i c h hc
   rw [rdI (show i < ids.length by omega)]
   by_cases e : rd ids (i : Int) = n
   ·have := ih (i + 1) (c + 1) (by omega) (by omega)
    have e2 : c + cntI n (rd ids (i : Int) :: ids.drop (i + 1)) = c + 1 + cntI n (ids.drop (i + 1)) := by
     show c + ((if rd ids (i : Int) = n then 1 else 0) + _) = _
     rw [if_pos e]; omega
    rw [e2]
    refine Ev.step (fun f => ?_) this
    rw [tallowlaw09_times.l0, if_pos (by omega), if_pos (by omega), if_pos e, wrapN (by omega) (by omega), wrapN (by omega) (by omega)]; rfl
   ·have := ih (i + 1) c (by omega) (by omega)
    have e2 : c + cntI n (rd ids (i : Int) :: ids.drop (i + 1)) = c + cntI n (ids.drop (i + 1)) := by
     show c + ((if rd ids (i : Int) = n then 1 else 0) + _) = _
     rw [if_neg e]; omega
    rw [e2]
    refine Ev.step (fun f => ?_) this
    rw [tallowlaw09_times.l0, if_pos (by omega), if_pos (by omega), if_neg e, wrapN (by omega) (by omega)]; rfl
 have := key ids.length 0 0 (by omega) (by omega)
 rw [List.drop_zero, Nat.zero_add] at this
 exact this
theorem wA_tab (W : S24 → Nat) (hW : ∀ x, refB x = false → W x = 0) (a : List S24) (P : List (S24 × S24)) : wA W (tabS ⟨1, 0⟩ a P) = wA W a + wP W P := by
 have hf : ∀ R : List (S24 × S24), wA W (flatP R) = wP W R := by
  intro R
  induction R with
  | nil => rfl
  | cons x R ih => show W x.1 + (W x.2 + wA W (flatP R)) = W x.1 + W x.2 + wP W R; rw [ih]; omega
 show W ⟨1, 0⟩ + (W ⟨3, (a.length : Int)⟩ + wA W (a ++ flatP P)) = _
 rw [hW _ ref_null, hW _ (ref_int rfl), wA_append, hf]; omega
theorem allL_len : ∀ L : List S46, (allL L).length ≤ 2 * L.length
 | [] => Nat.le_refl _
 | x :: L => by
  have := allL_len L
  show (two46 x ++ allL L).length ≤ 2 * (L.length + 1)
  rw [List.length_append]
  unfold two46
  by_cases h : good46 x = true
  ·rw [if_pos h]; simp; omega
  ·rw [if_neg h]; simp; omega
theorem holds_l1 {L : List S46} {a : List S24} {P : List (S24 × S24)} {out : List S24} (hL : L.length ≤ 40) (t : TI L L.length a P out) : ∀ (m i : Nat), (refIds (allL L)).length = i + m →
  Ev (fun f => tallowlaw09_DictHolds.l1 f (tabS ⟨1, 0⟩ a P) out (allL L) (refIds (allL L)) (i : Int)) true := by
 have hal := allL_len L
 have hol := t.ol
 have hlen := t.len
 have htl := len_tab ⟨1, 0⟩ a P
 have hrl := refIds_le (allL L)
 have hwt : ∀ W : S24 → Nat, (∀ x, refB x = false → W x = 0) → wA W (allL L) = wA W (tabS ⟨1, 0⟩ a P) + wA W out := fun W hW => by
  have := t.wt W hW
  rw [List.take_length] at this
  rw [wA_tab W hW, this]
 intro m
 induction m with
 | zero =>
  intro i h
  refine Ev.step (g := fun f => (val_Refs.f f (tabS ⟨1, 0⟩ a P)).bind fun t557 => ((val_Refs.f f out).bind fun t560 => (if ((refIds (allL L)).length : Int) = (wrap64 ((t557.length : Int) + (t560.length : Int))) then ((tallowlaw09_works.f f).bind fun t563 => (some t563)) else (some false)))) (fun f => ?_) (Ev.bind (erefs _ (by omega)) (Ev.bind (erefs _ (by omega)) (Ev.pos ?_ (Ev.bind eworks (Ev.pure _)))))
  ·rw [tallowlaw09_DictHolds.l1, if_neg (by omega)]
  ·have h1 := hwt W1 W1_no
   rw [← refIds_len, ← refIds_len, ← refIds_len] at h1
   rw [wrapN (by omega) (by omega)]
   omega
 | succ m ih =>
  intro i h
  refine Ev.step (g := fun f => (tallowlaw09_times.f f (allL L) (rd (refIds (allL L)) (i : Int))).bind fun t565 => ((tallowlaw09_times.f f (tabS ⟨1, 0⟩ a P) (rd (refIds (allL L)) (i : Int))).bind fun t567 => ((tallowlaw09_times.f f out (rd (refIds (allL L)) (i : Int))).bind fun t569 => (if t565 = (wrap64 (t567 + t569)) then (tallowlaw09_DictHolds.l1 f (tabS ⟨1, 0⟩ a P) out (allL L) (refIds (allL L)) ((i + 1 : Nat) : Int)) else (some false))))) (fun f => ?_)
   (Ev.bind (etimes (allL L) _ (by omega)) (Ev.bind (etimes (tabS ⟨1, 0⟩ a P) _ (by omega)) (Ev.bind (etimes out _ (by omega)) (Ev.pos ?_ (ih (i + 1) (by omega))))))
  ·rw [tallowlaw09_DictHolds.l1, if_pos (by omega), if_pos (by omega), wrapN (n := (i : Int) + 1) (by omega) (by omega)]; rfl
  ·have h1 := hwt (Wn (rd (refIds (allL L)) (i : Int))) (Wn_no _)
   have h2 : wA (Wn (rd (refIds (allL L)) (i : Int))) (allL L) ≤ (allL L).length := by
    rw [← refIds_cnt]
    have : ∀ (n : Int) (l : List Int), cntI n l ≤ l.length := by
     intro n l
     induction l with
     | nil => exact Nat.le_refl _
     | cons x l ih => show (if x = n then 1 else 0) + cntI n l ≤ l.length + 1; split <;> omega
    exact Nat.le_trans (this _ _) (refIds_le _)
   rw [wrapN (by omega) (by omega)]
   omega
theorem holds_l0 {L : List S46} {a : List S24} {P : List (S24 × S24)} {out : List S24} (hL : L.length ≤ 40) (t : TI L L.length a P out) (k : S24) (hk : inV k = true) : ∀ (m i : Nat), L.length = i + m →
  Ev (fun f => tallowlaw09_DictHolds.l0 f L (tabS ⟨1, 0⟩ a P) out (allL (L.take i)) (i : Int) k.f0 k.f1 (lastV (L.take i) k).f0 (lastV (L.take i) k).f1) true := by
 have hlen := t.len
 intro m
 induction m with
 | zero =>
  intro i h
  have hg : dict_Get.f (tabS ⟨1, 0⟩ a P) k.f0 k.f1 = some ((lastV L k).f0, (lastV L k).f1) := by
   have h1 : preB (tabS ⟨1, 0⟩ a P) (inV ⟨k.f0, k.f1⟩) = true := pre_tab t.av (by omega) hk
   have h2 : getS (tabS ⟨1, 0⟩ a P) ⟨k.f0, k.f1⟩ = lastV L k := by
    rw [getS_tab t.tok]
    have := t.sm k
    rw [List.take_length] at this
    exact this
   unfold dict_Get.f
   rw [if_pos h1, h2]
  have e1 : L.take i = L := by rw [show i = L.length by omega, List.take_length]
  rw [e1]
  refine Ev.step (g := fun f => (val_Refs.f f (allL L)).bind fun t554 => tallowlaw09_DictHolds.l1 f (tabS ⟨1, 0⟩ a P) out (allL L) t554 0) (fun f => ?_) (Ev.bind (erefs (allL L) (by have := allL_len L; omega)) (holds_l1 hL t (refIds (allL L)).length 0 (by omega)))
  rw [tallowlaw09_DictHolds.l0, if_neg (by omega), hg, Option.bind_some, if_neg (by simp)]
 | succ m ih =>
  intro i h
  have hi : i < L.length := by omega
  have ih := ih (i + 1) (by omega)
  rw [take46 hi, allL_snoc, lastV_snoc] at ih
  have hal := allL_len (L.take i)
  rw [List.length_take] at hal
  obtain ⟨x, hx⟩ : ∃ x, x = rd_T46 L (i : Int) := ⟨_, rfl⟩
  rw [← hx] at ih
  rcases put_f t.tok t.av (by omega) x with ⟨hg, n, r1, r2, hn, hf⟩ | ⟨hg, a', P', g, hf, hp, hlen2, hgl⟩
  ·rw [hg, Bool.false_and, if_neg (by decide), two46, hg, if_neg (by decide), List.append_nil] at ih
   refine Ev.step (fun f => ?_) ih
   rw [tallowlaw09_DictHolds.l0, if_pos (by omega), if_pos (by omega), ← hx, hf, Option.bind_some, if_neg hn, wrapN (by omega) (by omega)]; rfl
  ·rw [hg, Bool.true_and, two46, hg, if_pos rfl] at ih
   by_cases hs : sameV x.f0 k = true
   ·rw [if_pos hs] at ih
    refine Ev.step (fun f => ?_) ih
    rw [tallowlaw09_DictHolds.l0, if_pos (by omega), if_pos (by omega), ← hx, hf, Option.bind_some, if_pos rfl, Option.bind_some, if_pos (by show (allL (L.take i)).length + 2 < 8796093022208; omega), Option.bind_some, if_pos (show (x.f0.f0 == k.f0 && x.f0.f1 == k.f1) = true from hs), wrapN (by omega) (by omega)]; rfl
   ·rw [if_neg hs] at ih
    refine Ev.step (fun f => ?_) ih
    rw [tallowlaw09_DictHolds.l0, if_pos (by omega), if_pos (by omega), ← hx, hf, Option.bind_some, if_pos rfl, Option.bind_some, if_pos (by show (allL (L.take i)).length + 2 < 8796093022208; omega), Option.bind_some, if_neg (show ¬ (x.f0.f0 == k.f0 && x.f0.f1 == k.f1) = true from hs), wrapN (by omega) (by omega)]; rfl
theorem take40 (l : List S46) : ∃ n : Nat, (mn (l.length : Int) 40) = (n : Int) ∧ n ≤ l.length ∧ (l.take n).length ≤ 40 := by
 refine ⟨min l.length 40, by unfold mn; split <;> omega, by omega, by rw [List.length_take]; omega⟩
theorem holds_all (l : List S46) (k0 k1 : Int) (hin : ∀ x ∈ l, inV x.f0 = true ∧ inV x.f1 = true) (hk : inV ⟨k0, k1⟩ = true) : ∃ k, tallowlaw09_DictHolds.f k l k0 k1 = some true := by
 refine Ev.at (f := fun k => tallowlaw09_DictHolds.f k l k0 k1) ?_
 unfold tallowlaw09_DictHolds.f
 obtain ⟨n, hn, hnl, h40⟩ := take40 l
 rw [hn]
 refine Ev.pos (by omega) (Ev.pos (by omega) ?_)
 rw [Int.toNat_natCast]
 obtain ⟨L, hL⟩ : ∃ L, L = l.take n := ⟨_, rfl⟩
 rw [← hL] at h40 ⊢
 have hin2 : ∀ x ∈ L, inV x.f0 = true ∧ inV x.f1 = true := fun x hx => hin x (by rw [hL] at hx; exact List.mem_of_mem_take hx)
 obtain ⟨a, P, out, t, e⟩ := etable L h40 hin2
 refine Ev.bind (Ev.of fun _ => rfl) (Ev.bind e ?_)
 have hlen := t.len
 have hc : dict_Check.f (tabS ⟨1, 0⟩ a P) = some true := by
  unfold dict_Check.f
  rw [if_pos (pre_tab t.av (by omega) rfl), okS_tab t.tok]
 refine Ev.bind (Ev.of fun _ => hc) (Ev.pos rfl ?_)
 exact holds_l0 h40 t ⟨k0, k1⟩ hk L.length 0 (by omega)
theorem ok46 {l : List S46} (ok : ∀ y ∈ l, ((Lit.int .i64 y.f0.f0).wf = true ∧ (Lit.int .i64 y.f0.f1).wf = true) ∧ ((Lit.int .i64 y.f1.f0).wf = true ∧ (Lit.int .i64 y.f1.f1).wf = true)) : ∀ x ∈ l, inV x.f0 = true ∧ inV x.f1 = true := fun x hx => by
 obtain ⟨h1, h2⟩ := ok x hx
 exact ⟨okK h1, okK h2⟩
theorem dictHolds (l : List S46) (k0 k1 : Int) (ok0 : l.length * 32 ≤ 140737488351232 ∧ ∀ y ∈ l, ((Lit.int .i64 y.f0.f0).wf = true ∧ (Lit.int .i64 y.f0.f1).wf = true) ∧ ((Lit.int .i64 y.f1.f0).wf = true ∧ (Lit.int .i64 y.f1.f1).wf = true)) (ok1 : (Lit.int .i64 k0).wf = true ∧ (Lit.int .i64 k1).wf = true) : ∃ k, tallowlaw09_DictHolds.f k l k0 k1 = some true :=
 holds_all l k0 k1 (ok46 ok0.2) (okK ok1)
end Go.Proofs.YtadhkfklkbdabaaR.G
end
