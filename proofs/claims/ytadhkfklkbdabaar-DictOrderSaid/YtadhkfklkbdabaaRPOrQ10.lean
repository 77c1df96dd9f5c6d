import Derived.Deep.RegionLaw
import Derived.Deep.Cut
import Derived.WalkSpells
import Derived.Maps.OwnOps
import Derived.Maps.OwnSet
import Derived.Maps.Views
import Derived.Maps.Own
import Derived.DeepKeys5
import Derived.Outline
import Derived.Deep.AppendLies
import Derived.Laws.CopyRow
import Derived.Laws.CopyOwn
import Derived.StillTailTactics
import Derived.Test.YtadhkfklkbdabaaRPOrQ9
set_option linter.unusedVariables false
set_option linter.unusedSimpArgs false
section
namespace Go.Proofs.YtadhkfklkbdabaaR.G
open Go.RowKit Go.Proofs.YtadhkfklkbdabaaRW.PrintWords Go.Proofs.YtadhkfklkbdabaaRW.PrintLast Go.Proofs.YtadhkfklkbdabaaRW.PrintMore
set_option linter.unusedVariables false
set_option linter.unusedSimpArgs false
def tabS (h : S24) (a : List S24) (P : List (S24 × S24)) : List S24 := h :: ⟨3, (a.length : Int)⟩ :: (a ++ flatP P)
theorem arrN_tab (h : S24) (a : List S24) (P : List (S24 × S24)) : arrN (tabS h a P) = a.length := by
 show (rd_T24 (tabS h a P) 1).f1.toNat = a.length
 show ((a.length : Int)).toNat = a.length
 omega
theorem arrS_tab (h : S24) (a : List S24) (P : List (S24 × S24)) : arrS (tabS h a P) = a := by
 unfold arrS
 rw [arrN_tab]
 show (a ++ flatP P).take a.length = a
 exact List.take_left
theorem prsS_tab (h : S24) (a : List S24) (P : List (S24 × S24)) : prsS (tabS h a P) = flatP P := by
 unfold prsS
 rw [arrN_tab, show 2 + a.length = (a.length + 1) + 1 by omega]
 show (a ++ flatP P).drop a.length = _
 exact List.drop_left
theorem len_tab (h : S24) (a : List S24) (P : List (S24 × S24)) : (tabS h a P).length = a.length + 2 * P.length + 2 := by
 show (a ++ flatP P).length + 1 + 1 = _
 rw [List.length_append, flatP_len]
theorem good_key {k : S24} (h : keyB k = true) : goodB k = true := by
 unfold keyB at h
 rw [Bool.and_eq_true, decide_eq_true_eq] at h
 unfold goodB
 rw [h.2, show (k.f0 == 0) = false by simp; omega]; rfl
theorem mem_flat {x : S24} : ∀ {P : List (S24 × S24)}, x ∈ flatP P → ∃ y ∈ P, x = y.1 ∨ x = y.2
 | [], h => by cases h
 | y :: P, h => by
  rcases List.mem_cons.1 h with h | h
  ·exact ⟨y, List.mem_cons_self, .inl h⟩
  ·rcases List.mem_cons.1 h with h | h
   ·exact ⟨y, List.mem_cons_self, .inr h⟩
   ·obtain ⟨z, hz, e⟩ := mem_flat h
    exact ⟨z, List.mem_cons_of_mem _ hz, e⟩
theorem keysL_flat : ∀ P : List (S24 × S24), keysL (flatP P) = P.map (·.1)
 | [] => rfl
 | x :: P => by show x.1 :: keysL (flatP P) = _; rw [keysL_flat P]; rfl
theorem keysOk2_flat (n : Int) : ∀ P : List (S24 × S24), (∀ x ∈ P, keyB x.1 = true ∧ nullB x.2 = false ∧ placedB x.1 (n + 1) = false) → (P.map (·.1)).Nodup → keysOk2 n (flatP P) = true
 | [], _, _ => rfl
 | x :: P, h, hn => by
  rw [List.map_cons, List.nodup_cons] at hn
  obtain ⟨h1, h2, h3⟩ := h x List.mem_cons_self
  show (keyB x.1 && (!nullB x.2 && (!placedB x.1 (n + 1) && (!((keysL (flatP P)).any fun a => sameV a x.1) && keysOk2 n (flatP P))))) = true
  rw [h1, h2, h3, keysOk2_flat n P (fun y hy => h y (List.mem_cons_of_mem _ hy)) hn.2, keysL_flat]
  have : ((P.map (·.1)).any fun a => sameV a x.1) = false := by
   rw [List.any_eq_false]
   intro y hy hs
   exact hn.1 (by rw [← sameV_iff.1 hs]; exact hy)
  rw [this]; rfl
theorem okS_tab {a : List S24} {P : List (S24 × S24)} (t : TOk a P) : okS (tabS ⟨1, 0⟩ a P) = true := by
 have hl := len_tab ⟨1, 0⟩ a P
 unfold okS
 have h1 : headB (tabS ⟨1, 0⟩ a P) = true := by
  unfold headB
  have e : rd_T24 (tabS ⟨1, 0⟩ a P) 1 = ⟨3, (a.length : Int)⟩ := rfl
  rw [e, hl, decide_eq_true (by omega), decide_eq_true (by show 0 ≤ (a.length : Int); omega), decide_eq_true (by show (a.length : Int) ≤ _; omega)]; rfl
 have h2 : allB (tabS ⟨1, 0⟩ a P) = true := by
  unfold allB
  rw [List.all_eq_true]
  intro x hx
  show goodB x = true
  rcases List.mem_cons.1 hx with rfl | hx
  ·rfl
  ·rcases List.mem_cons.1 hx with rfl | hx
   ·rfl
   ·rcases List.mem_append.1 hx with hx | hx
    ·exact t.tw.ga x hx
    ·obtain ⟨y, hy, e | e⟩ := mem_flat hx
     ·rw [e]; exact good_key (t.tw.gp y hy).1
     ·rw [e]; exact (t.tw.gp y hy).2.1
 have h3 : (decide (0 < arrN (tabS ⟨1, 0⟩ a P)) && nullB (rd_T24 (tabS ⟨1, 0⟩ a P) (1 + (arrN (tabS ⟨1, 0⟩ a P) : Int)))) = false := by
  rw [arrN_tab]
  cases hn : a.length with
  | zero => rfl
  | succ n =>
   have e := rd_arr h1 (x := (n : Int)) (by omega) (by rw [arrS_tab]; omega)
   rw [arrS_tab] at e
   rw [show (1 : Int) + ((n + 1 : Nat) : Int) = 2 + (n : Int) by omega, ← e, t.tw.la n hn]
   simp
 rw [h1, h2, h3, prsS_tab, flatP_len, arrN_tab, keysOk_nil, keysOk2_flat _ P (fun x hx => ⟨(t.tw.gp x hx).1, (t.tw.gp x hx).2.2.1, t.nx x hx⟩) t.tw.nd]
 have e0 : rd_T24 (tabS ⟨1, 0⟩ a P) 0 = ⟨1, 0⟩ := rfl
 rw [e0]
 have e2 : (2 * P.length % 2 == 0) = true := by simp
 rw [e2]; rfl
theorem putS_tab {a : List S24} {P P' : List (S24 × S24)} {k v : S24} (t : TOk a P) (h2 : (H.mayB k.f0 k.f1 && (H.mayB v.f0 v.f1 && !(v.f0 == 0))) = true) (h3 : keyB k = true) (hP : (changeS a (flatP P) k v).2.1 = flatP P') :
  putS (tabS ⟨1, 0⟩ a P) k v = (tabS ⟨1, 0⟩ (changeS a (flatP P) k v).1 P', (changeS a (flatP P) k v).2.2, 0) := by
 rw [putS_ok (okS_tab t) h2 h3, arrS_tab, prsS_tab, hP]
 rfl
structure AllV (a : List S24) (P : List (S24 × S24)) : Prop where
 av : ∀ x ∈ a, inV x = true
 pv : ∀ x ∈ P, inV x.1 = true ∧ inV x.2 = true
theorem sem_in {a : List S24} {P : List (S24 × S24)} (h : AllV a P) (k : S24) : inV (sem a P k) = true := by
 unfold sem
 by_cases hp : placedB k a.length = true
 ·obtain ⟨q1, q2, q3⟩ := placed_iff.1 hp
  rw [if_pos hp, rd_idx (by omega)]
  exact h.av _ (rd_mem (by omega))
 ·rw [if_neg hp]
  by_cases hm : ∃ y ∈ P, y.1 = k
  ·have key : ∀ R : List (S24 × S24), (∀ y ∈ R, inV y.2 = true) → inV (asc R k) = true := by
    intro R
    induction R with
    | nil => intro _; show inV ⟨1, 0⟩ = true; decide
    | cons y R ih =>
     intro hR
     show inV (if sameV y.1 k = true then y.2 else asc R k) = true
     by_cases hs : sameV y.1 k = true
     ·rw [if_pos hs]; exact hR y List.mem_cons_self
     ·rw [if_neg hs]; exact ih fun z hz => hR z (List.mem_cons_of_mem _ hz)
   exact key P fun y hy => (h.pv y hy).2
  ·rw [asc_no (fun y hy e => hm ⟨y, hy, e⟩)]; decide
theorem inV_small {n : Int} (h0 : 0 ≤ n) (h1 : n ≤ 1000000) : inV ⟨3, n⟩ = true := by
 unfold inV inR
 rw [show (Lit.int .i64 (⟨3, n⟩ : S24).f0).wf = true by (show (Lit.int .i64 3).wf = true; decide), show (Lit.int .i64 (⟨3, n⟩ : S24).f1).wf = true from inR_small h0 h1]; rfl
theorem put_in {a a' : List S24} {P P' : List (S24 × S24)} {k v : S24} {g : List S24} (h : AllV a P) (hk : inV k = true) (hv : inV v = true) (hp : PutOk a P k v a' P' g) (hl : a.length ≤ 100000) (hl' : a'.length ≤ 100000) : AllV a' P' := by
 have hs : ∀ k', inV (sem a' P' k') = true := fun k' => by
  rw [hp.sm k']
  by_cases e : sameV k' k = true
  ·rw [if_pos e]; exact hv
  ·rw [if_neg e]; exact sem_in h k'
 refine ⟨fun x hx => ?_, fun x hx => ?_⟩
 ·obtain ⟨i, hi, e⟩ := List.getElem_of_mem hx
  have := hs ⟨3, (i : Int) + 1⟩
  unfold sem at this
  rw [if_pos (placed_iff.2 ⟨rfl, by show 1 ≤ (i : Int) + 1; omega, by show (i : Int) + 1 ≤ _; omega⟩), show (⟨3, (i : Int) + 1⟩ : S24).f1 - 1 = (i : Int) by show (i : Int) + 1 - 1 = _; omega, rdN hi, e] at this
  exact this
 ·obtain ⟨g1, g2, g3, g4⟩ := hp.tok.tw.gp x hx
  have h1 : sem a' P' x.1 = x.2 := by rw [sem_not (by rw [g4]; decide)]; exact asc_mem hp.tok.tw.nd hx
  refine ⟨?_, by rw [← h1]; exact hs x.1⟩
  by_cases e : x.1 = k
  ·rw [e]; exact hk
  ·have h2 := hp.sm x.1
   rw [if_neg (fun e2 => e (sameV_iff.1 e2)), h1] at h2
   by_cases hpl : placedB x.1 a.length = true
   ·obtain ⟨q1, q2, q3⟩ := placed_iff.1 hpl
    rw [show x.1 = ⟨3, x.1.f1⟩ from s24_eq q1 rfl]
    exact inV_small (by omega) (by omega)
   ·rw [sem_not hpl] at h2
    by_cases hm : ∃ y ∈ P, y.1 = x.1
    ·obtain ⟨y, hy, e3⟩ := hm
     rw [← e3]; exact (h.pv y hy).1
    ·rw [asc_no (fun y hy e3 => hm ⟨y, hy, e3⟩)] at h2
     rw [h2] at g3; cases g3
theorem pre_tab {a : List S24} {P : List (S24 × S24)} {b : Bool} (h : AllV a P) (hl : a.length + 2 * P.length ≤ 10000) (hb : b = true) : preB (tabS ⟨1, 0⟩ a P) b = true := by
 unfold preB
 rw [hb, decide_eq_true (by rw [len_tab]; omega), Bool.and_true, Bool.true_and, List.all_eq_true]
 intro x hx
 rcases List.mem_cons.1 hx with rfl | hx
 ·decide
 ·rcases List.mem_cons.1 hx with rfl | hx
  ·exact inV_small (by omega) (by omega)
  ·rcases List.mem_append.1 hx with hx | hx
   ·exact h.av x hx
   ·obtain ⟨y, hy, e | e⟩ := mem_flat hx
    ·rw [e]; exact (h.pv y hy).1
    ·rw [e]; exact (h.pv y hy).2
end Go.Proofs.YtadhkfklkbdabaaR.G
end
