import Derived.Deep.RegionLaw
import Derived.Deep.Cut
import Derived.WalkSpells
import Derived.Maps.OwnOps
import Derived.Maps.OwnSet
import Derived.Maps.Views
import Derived.Maps.Own
import Derived.DeepKeys5
import Derived.Outline
import Derived.Deep.AppendLies
import Derived.Laws.CopyRow
import Derived.Laws.CopyOwn
import Derived.StillTailTactics
import Derived.Test.YtadhkfklkbdabaaRPWaQ13
import Derived.Test.YtadhkfklkbdabaaRPWaGxF8
set_option linter.unusedVariables false
set_option linter.unusedSimpArgs false
section
namespace Go.Proofs.YtadhkfklkbdabaaR.G
open Go.RowKit Go.Proofs.YtadhkfklkbdabaaRW.PrintWords Go.Proofs.YtadhkfklkbdabaaRW.PrintLast Go.Proofs.YtadhkfklkbdabaaRW.PrintMore
set_option linter.unusedVariables false
set_option linter.unusedSimpArgs false
def pairX (x : S24) : Bool := x.f0 == 1 && x.f1 == 0
theorem pairX_iff {x : S24} : pairX x = true ↔ x = ⟨1, 0⟩ := by
 unfold pairX
 simp only [Bool.and_eq_true, beq_iff_eq]
 constructor
 ·rintro ⟨h0, h1⟩; exact s24_eq h0 h1
 ·rintro rfl; exact ⟨rfl, rfl⟩
theorem get_tab {a : List S24} {P : List (S24 × S24)} (t : TOk a P) (av : AllV a P) (hl : a.length + 2 * P.length ≤ 10000) {k : S24} (hk : inV k = true) : dict_Get.f (tabS ⟨1, 0⟩ a P) k.f0 k.f1 = some ((sem a P k).f0, (sem a P k).f1) := by
 have h1 : preB (tabS ⟨1, 0⟩ a P) (inV ⟨k.f0, k.f1⟩) = true := pre_tab av hl hk
 have h2 : getS (tabS ⟨1, 0⟩ a P) ⟨k.f0, k.f1⟩ = sem a P k := getS_tab t k
 unfold dict_Get.f
 rw [if_pos h1, h2]
theorem walks_l3 {L : List S46} {a : List S24} {P : List (S24 × S24)} (t : TOk a P) (av : AllV a P) (hl : a.length + 2 * P.length ≤ 1000) (i : Nat) (hi : i < L.length) (hL : L.length ≤ 40) (hk : inV (rd_T46 L (i : Int)).f0 = true)
  (hnext : Ev (fun f => tallowlaw09_DictWalks.l2 f L (tabS ⟨1, 0⟩ a P) (allE a P) ((i + 1 : Nat) : Int) 1 0) true) : ∀ (m j : Nat), (allE a P).length = j + m →
  Ev (fun f => tallowlaw09_DictWalks.l3 f L (tabS ⟨1, 0⟩ a P) (allE a P) (i : Int) (((allE a P).take j).any fun e => sameV e (rd_T46 L (i : Int)).f0) (j : Int) 1 0) true := by
 have hle := len_allE a P
 obtain ⟨K, hK⟩ : ∃ K, K = (rd_T46 L (i : Int)).f0 := ⟨_, rfl⟩
 rw [← hK] at hk ⊢
 intro m
 induction m with
 | zero =>
  intro j h
  rw [show j = (allE a P).length by omega, List.take_length]
  refine Ev.step (fun f => ?_) hnext
  rw [tallowlaw09_DictWalks.l3, if_neg (by omega), if_pos (by omega), if_pos (by omega), ← hK, get_tab t av (by omega) hk, Option.bind_some, if_neg, wrapN (by omega) (by omega)]
  ·rfl
  ·have hm := mem_allE t K
   have e1 : ((allE a P).any fun e => sameV e K) = true ↔ K ∈ allE a P := by
    rw [List.any_eq_true]
    constructor
    ·rintro ⟨x, hx, hs⟩; rw [← sameV_iff.1 hs]; exact hx
    ·intro h; exact ⟨K, h, sameV_self K⟩
   have e2 : (!((sem a P K).f0 == 1) || !((sem a P K).f1 == 0)) = !pairX (sem a P K) := by
    unfold pairX
    cases (sem a P K).f0 == 1 <;> cases (sem a P K).f1 == 0 <;> rfl
   show ¬ ((((allE a P).any fun e => sameV e K) != (!((sem a P K).f0 == 1) || !((sem a P K).f1 == 0))) = true)
   rw [e2]
   by_cases hKE : K ∈ allE a P
   ·rw [e1.2 hKE]
    have : pairX (sem a P K) = false := by
     cases hx : pairX (sem a P K) with
     | false => rfl
     | true => exact (hm.1 hKE (pairX_iff.1 hx)).elim
    rw [this]; decide
   ·have h1 : ((allE a P).any fun e => sameV e K) = false := by
     cases hx : ((allE a P).any fun e => sameV e K) with
     | false => rfl
     | true => exact (hKE (e1.1 hx)).elim
    have h2 : sem a P K = ⟨1, 0⟩ := by
     apply Classical.byContradiction
     intro h; exact hKE (hm.2 h)
    rw [h1, h2]; decide
 | succ m ih =>
  intro j h
  have hj : j < (allE a P).length := by omega
  have ih := ih (j + 1) (by omega)
  have et : (allE a P).take (j + 1) = (allE a P).take j ++ [rd_T24 (allE a P) (j : Int)] := by rw [List.take_add_one, List.getElem?_eq_getElem hj, rdN hj]; rfl
  rw [et, List.any_append] at ih
  cases hb : ((allE a P).take j).any fun e => sameV e K with
  | true =>
   rw [hb, Bool.true_or] at ih
   refine Ev.step (fun f => ?_) ih
   rw [tallowlaw09_DictWalks.l3, if_pos (by omega), if_pos rfl, wrapN (by omega) (by omega)]; rfl
  | false =>
   rw [hb, Bool.false_or] at ih
   have e3 : ([rd_T24 (allE a P) (j : Int)].any fun e => sameV e K) = sameV (rd_T24 (allE a P) (j : Int)) K := by simp
   rw [e3] at ih
   refine Ev.step (fun f => ?_) ih
   rw [tallowlaw09_DictWalks.l3, if_pos (by omega), if_neg (by decide), if_pos (by omega), if_pos (by omega), if_pos (by omega), wrapN (by omega) (by omega), ← hK]; rfl
theorem walks_l2 {L : List S46} {a : List S24} {P : List (S24 × S24)} (t : TOk a P) (av : AllV a P) (hl : a.length + 2 * P.length ≤ 1000) (hL : L.length ≤ 40) (hin : ∀ x ∈ L, inV x.f0 = true ∧ inV x.f1 = true) : ∀ (m i : Nat), L.length = i + m →
  Ev (fun f => tallowlaw09_DictWalks.l2 f L (tabS ⟨1, 0⟩ a P) (allE a P) (i : Int) 1 0) true
 | 0, i, h => by
  refine Ev.step (g := fun f => (tallowlaw09_works.f f).bind fun t618 => some t618) (fun f => ?_) (Ev.bind eworks (Ev.pure _))
  rw [tallowlaw09_DictWalks.l2, if_neg (by omega)]
 | m + 1, i, h => by
  have := walks_l3 t av hl i (by omega) hL (hin _ (mem46 (by omega))).1 (walks_l2 t av hl hL hin m (i + 1) (by omega)) (allE a P).length 0 (by omega)
  refine Ev.step (fun f => ?_) this
  rw [tallowlaw09_DictWalks.l2, if_pos (by omega)]; rfl
theorem walks_l1 {L : List S46} {s seen : List S24} {e : S24} {i : Int} {r : Bool} (hs : seen.length ≤ 1000) (hno : e ∉ seen)
  (hnext : Ev (fun f => (dict_Get.f s e.f0 e.f1).bind fun bt613 => (if (bt613.1 == 1 && (bt613.2 == 0)) = true then some false else (if seen.length < 8796093022208 then tallowlaw09_DictWalks.l0 f L s (seen ++ [e]) (wrap64 (i + 1)) 1 0 e.f0 e.f1 else none))) r) : ∀ (m j : Nat), seen.length = j + m → Ev (fun f => tallowlaw09_DictWalks.l1 f L s seen i (j : Int) 1 0 e.f0 e.f1) r
 | 0, j, h => by
  refine Ev.step (fun f => ?_) hnext
  rw [tallowlaw09_DictWalks.l1, if_neg (by omega)]
 | m + 1, j, h => by
  refine Ev.step (fun f => ?_) (walks_l1 hs hno hnext m (j + 1) (by omega))
  have hne : ¬ ((rd_T24 seen (j : Int)).f0 == e.f0 && (rd_T24 seen (j : Int)).f1 == e.f1) = true := fun h2 => by
   apply hno
   rw [← sameV_iff.1 (show sameV (rd_T24 seen (j : Int)) e = true from h2)]
   exact rd_mem (by omega)
  rw [tallowlaw09_DictWalks.l1, if_pos (by omega), if_pos (by omega), if_neg hne, wrapN (by omega) (by omega)]; rfl
theorem walks_l0 {L : List S46} {a : List S24} {P : List (S24 × S24)} (t : TOk a P) (av : AllV a P) (hl : a.length + 2 * P.length ≤ 80) (hL : L.length ≤ 40) (hin : ∀ x ∈ L, inV x.f0 = true ∧ inV x.f1 = true) : ∀ (rest seen : List S24) (cur : S24), allE a P = seen ++ rest → Ch (tabS ⟨1, 0⟩ a P) cur rest → inV cur = true →
  Ev (fun f => tallowlaw09_DictWalks.l0 f L (tabS ⟨1, 0⟩ a P) seen (seen.length : Int) 1 0 cur.f0 cur.f1) true
 | [], seen, cur, e, hc, hk => by
  have hle := len_allE a P
  have he : (allE a P).length = seen.length := by rw [e, List.append_nil]
  have hn : dict_Next.f (tabS ⟨1, 0⟩ a P) cur.f0 cur.f1 = some (1, 0, 0) := by
   unfold dict_Next.f
   rw [if_pos (pre_tab av (by omega) hk), show nextS (tabS ⟨1, 0⟩ a P) ⟨cur.f0, cur.f1⟩ = (⟨1, 0⟩, 0) from hc]
  have h2 := walks_l2 t av (by omega) hL hin L.length 0 (by omega)
  rw [e, List.append_nil] at h2
  refine Ev.step (g := fun f => tallowlaw09_DictWalks.j2 f L (tabS ⟨1, 0⟩ a P) seen 1 0 1 0) (fun f => ?_) (Ev.step (fun f => ?_) h2)
  ·rw [tallowlaw09_DictWalks.l0, if_pos (by omega), hn, Option.bind_some, if_pos rfl, if_pos (by rfl)]
  ·rw [tallowlaw09_DictWalks.j2, if_neg (by decide)]; rfl
 | x :: rest, seen, cur, e, hc, hk => by
  have hle := len_allE a P
  have he : (allE a P).length = seen.length + (rest.length + 1) := by rw [e, List.length_append, List.length_cons]
  obtain ⟨hc1, hc2⟩ := hc
  have hxm : x ∈ allE a P := by rw [e]; exact List.mem_append_right _ List.mem_cons_self
  have hxv := in_allE av (by omega) hxm
  have hn : dict_Next.f (tabS ⟨1, 0⟩ a P) cur.f0 cur.f1 = some (x.f0, x.f1, 0) := by
   unfold dict_Next.f
   rw [if_pos (pre_tab av (by omega) hk), show nextS (tabS ⟨1, 0⟩ a P) ⟨cur.f0, cur.f1⟩ = (x, 0) from hc1]
  have hno : x ∉ seen := by
   have := nodup_allE t
   rw [e, List.nodup_append] at this
   intro h
   exact this.2.2 x h x List.mem_cons_self rfl
  have hne : ¬ (x.f0 == 1 && x.f1 == 0) = true := fun h => ne_allE t hxm (pairX_iff.1 h)
  have hsn : ¬ ((sem a P x).f0 == 1 && (sem a P x).f1 == 0) = true := fun h => (mem_allE t x).1 hxm (pairX_iff.1 h)
  have ih := walks_l0 t av hl hL hin rest (seen ++ [x]) x (by rw [e, List.append_assoc]; rfl) hc2 hxv
  refine Ev.step (g := fun f => tallowlaw09_DictWalks.l1 f L (tabS ⟨1, 0⟩ a P) seen (seen.length : Int) 0 1 0 x.f0 x.f1) (fun f => ?_) (walks_l1 (by omega) hno ?_ seen.length 0 (by omega))
  ·rw [tallowlaw09_DictWalks.l0, if_pos (by omega), hn, Option.bind_some, if_pos rfl, if_neg hne]
  ·refine Ev.bind (Ev.of fun _ => get_tab t av (by omega) hxv) (Ev.neg hsn (Ev.pos (by omega) ?_))
   rw [wrapN (by omega) (by omega)]
   rw [List.length_append, List.length_singleton] at ih
   exact ih
theorem walks_all (l : List S46) (hin : ∀ x ∈ l, inV x.f0 = true ∧ inV x.f1 = true) : ∃ k, tallowlaw09_DictWalks.f k l = some true := by
 refine Ev.at (f := fun k => tallowlaw09_DictWalks.f k l) ?_
 unfold tallowlaw09_DictWalks.f
 obtain ⟨n, hn, hnl, h40⟩ : ∃ n : Nat, (mn (l.length : Int) 40) = (n : Int) ∧ n ≤ l.length ∧ (l.take n).length ≤ 40 := ⟨min l.length 40, by unfold mn; split <;> omega, by omega, by rw [List.length_take]; omega⟩
 rw [hn]
 refine Ev.pos (by omega) (Ev.pos (by omega) ?_)
 rw [Int.toNat_natCast]
 obtain ⟨L, hL⟩ : ∃ L, L = l.take n := ⟨_, rfl⟩
 rw [← hL] at h40 ⊢
 have hin2 : ∀ x ∈ L, inV x.f0 = true ∧ inV x.f1 = true := fun x hx => hin x (by rw [hL] at hx; exact List.mem_of_mem_take hx)
 obtain ⟨a, P, out, t, e⟩ := etable L h40 hin2
 refine Ev.bind (Ev.of fun _ => rfl) (Ev.bind e ?_)
 have hlen := t.len
 exact walks_l0 t.tok t.av (by omega) h40 hin2 (allE a P) [] ⟨1, 0⟩ rfl (ch_all t.tok) (by decide)
theorem dictWalks (l : List S46) (ok0 : l.length * 32 ≤ 140737488351232 ∧ ∀ y ∈ l, ((Lit.int .i64 y.f0.f0).wf = true ∧ (Lit.int .i64 y.f0.f1).wf = true) ∧ ((Lit.int .i64 y.f1.f0).wf = true ∧ (Lit.int .i64 y.f1.f1).wf = true)) : ∃ k, tallowlaw09_DictWalks.f k l = some true :=
 walks_all l fun x hx => ⟨okK (ok0.2 x hx).1, okK (ok0.2 x hx).2⟩
end Go.Proofs.YtadhkfklkbdabaaR.G
end
