import Derived.Deep.RegionLaw
import Derived.Deep.Cut
import Derived.WalkSpells
import Derived.Maps.OwnOps
import Derived.Maps.OwnSet
import Derived.Maps.Views
import Derived.Maps.Own
import Derived.DeepKeys5
import Derived.Outline
import Derived.Deep.AppendLies
import Derived.Laws.CopyRow
import Derived.Laws.CopyOwn
import Derived.StillTailTactics
import Derived.Test.YtadhkfklkbdabaaRPLoQ2
import Derived.Test.YtadhkfklkbdabaaRPLoGxF5
set_option linter.unusedVariables false
set_option linter.unusedSimpArgs false
section
namespace Go.Proofs.YtadhkfklkbdabaaR.G
open Go.RowKit Go.Proofs.YtadhkfklkbdabaaRW.PrintWords Go.Proofs.YtadhkfklkbdabaaRW.PrintLast Go.Proofs.YtadhkfklkbdabaaRW.PrintMore
set_option linter.unusedVariables false
set_option linter.unusedSimpArgs false
theorem own_eq (l : List S24) : tallowlaw09_own.f l = some (l.take 60) := by
 unfold tallowlaw09_own.f
 have h : (mn (l.length : Int) 60) = ((min l.length 60 : Nat) : Int) := by unfold mn; split <;> omega
 rw [h, if_pos (by omega), if_pos (by omega), Option.bind_some, Int.toNat_natCast, if_pos (by rw [List.length_take]; simp; omega)]
 rw [List.nil_append]
 congr 1
 rw [List.take_eq_take_iff]
 omega
theorem evalues (l : List S24) (hl : l.length ≤ 100000) : Ev (fun f => tallowref02_Values.f f l l) true := by
 unfold tallowref02_Values.f
 refine Ev.pos rfl ?_
 have key : ∀ (m i : Nat), l.length = i + m → Ev (fun f => tallowref02_Values.l0 f l l (i : Int)) true := by
  intro m
  induction m with
  | zero =>
   intro i h
   refine Ev.step (fun f => ?_) (Ev.pure _)
   rw [tallowref02_Values.l0, if_neg (by omega)]
  | succ m ih =>
   intro i h
   refine Ev.step (fun f => ?_) (ih (i + 1) (by omega))
   rw [tallowref02_Values.l0, if_pos (by omega), if_pos (by omega), if_pos (by omega), if_neg (by simp), wrapN (by omega) (by omega)]; rfl
 exact key l.length 0 (by omega)
theorem works_k : tallowlaw09_works.f 20 = some true := by decide +kernel
theorem eworks : Ev (fun f => tallowlaw09_works.f f) true := Ev.up (fun k => tallowlaw09_works.mono k) works_k
theorem arrN_int {l : List S24} (h : headB l = true) : (arrN l : Int) = (rd_T24 l 1).f1 ∧ 2 + arrN l ≤ l.length ∧ (arrS l).length = arrN l ∧ (prsS l).length = l.length - (2 + arrN l) := by
 have h1 := len_arr h
 unfold headB at h
 simp only [Bool.and_eq_true, decide_eq_true_eq, beq_iff_eq] at h
 obtain ⟨g0, g1, g2, g3⟩ := h
 unfold arrN at h1 ⊢
 refine ⟨by omega, by omega, h1, ?_⟩
 unfold prsS arrN
 rw [List.length_drop]
theorem okS_even2 {l : List S24} (h : okS l = true) : (prsS l).length % 2 = 0 := by
 unfold okS at h
 simp only [Bool.and_eq_true, beq_iff_eq] at h
 exact h.2.2.2.1
theorem elen (l : List S24) (hl : l.length ≤ 100000) : Ev (fun f => tallowref09_Len.f f l) (lenS l) := by
 unfold tallowref09_Len.f lenS
 refine Ev.bind (echeck l hl) ?_
 cases h : okS l with
 | true =>
  obtain ⟨a1, a2, a3, a4⟩ := arrN_int (headB_of h)
  refine Ev.pos rfl (Ev.pos (by omega) ?_)
  rw [if_pos rfl, a3, a1]; exact Ev.pure _
 | false => exact Ev.neg (by decide) (Ev.pure _)
theorem pair_rel (l : List S24) (k : S24) (hl : l.length ≤ 100000) (h : okS l = true) : Ev (fun f => tallowref09_pair.f f l k.f0 k.f1) (match idxP k (prsS l) 0 with | some j => ((2 + arrN l + j : Nat) : Int) | none => 0) := by
 obtain ⟨a1, a2, a3, a4⟩ := arrN_int (headB_of h)
 have he := okS_even2 h
 unfold tallowref09_pair.f
 refine Ev.pos (by omega) ?_
 rw [← a1, wrapN (by omega) (by omega)]
 have := epair_l l k hl ((prsS l).length / 2) (2 + arrN l) (by omega)
 rw [show l.drop (2 + arrN l) = prsS l from rfl, idxP_at k (prsS l).length (prsS l) (2 + arrN l) (Nat.le_refl _)] at this
 cases hi : idxP k (prsS l) 0 with
 | none => rw [hi] at this; exact this
 | some j =>
  rw [hi] at this
  simp only [Option.map_some] at this
  rw [Nat.add_comm j] at this
  exact this
theorem rd_prs {l : List S24} {n : Nat} (i : Nat) : rd_T24 (l.drop n) (i : Int) = rd_T24 l ((n + i : Nat) : Int) := by
 unfold rd_T24
 rw [Int.toNat_natCast, Int.toNat_natCast, List.getD_eq_getElem?_getD, List.getD_eq_getElem?_getD, List.getElem?_drop]
theorem eget (l : List S24) (k : S24) (hl : l.length ≤ 100000) : Ev (fun f => tallowref09_Get.f f l k.f0 k.f1) ((getS l k).f0, (getS l k).f1) := by
 unfold tallowref09_Get.f
 refine Ev.bind (echeck l hl) ?_
 cases h : okS l with
 | false =>
  refine Ev.neg (by decide) ?_
  rw [getS_no h]; exact Ev.pure _
 | true =>
  obtain ⟨a1, a2, a3, a4⟩ := arrN_int (headB_of h)
  refine Ev.pos rfl (Ev.pos (by omega) ?_)
  rw [rwithin, ← a1]
  simp only [Option.bind_some]
  cases hp : placedB k (arrN l) with
  | true =>
   obtain ⟨b1, b2⟩ := placed_bd hp
   refine Ev.pos rfl ?_
   rw [wrapN (by omega) (by omega)]
   refine Ev.pos (by omega) (Ev.pos (by omega) ?_)
   rw [getS_arr h hp]; exact Ev.pure _
  | false =>
   refine Ev.neg (by decide) (Ev.bind (pair_rel l k hl h) ?_)
   cases hi : idxP k (prsS l) 0 with
   | none =>
    rw [getS_none h hp hi]
    exact Ev.pos rfl (Ev.pure _)
   | some j =>
    have hb := idxP_lt k _ _ _ hi
    rw [getS_some h hp hi]
    dsimp only
    refine Ev.neg (by omega) ?_
    rw [wrapN (by omega) (by omega)]
    refine Ev.pos (by omega) (Ev.pos (by omega) ?_)
    have e : rd_T24 (prsS l) ((j : Int) + 1) = rd_T24 l (((2 + arrN l + j : Nat) : Int) + 1) := by
     have := rd_prs (l := l) (n := 2 + arrN l) (j + 1)
     rw [show (((j + 1 : Nat)) : Int) = (j : Int) + 1 by omega, show ((2 + arrN l + (j + 1) : Nat) : Int) = ((2 + arrN l + j : Nat) : Int) + 1 by omega] at this
     exact this
    rw [e]; exact Ev.pure _
theorem inV_take {l : List S24} (h : ∀ x ∈ l, inV x = true) (n : Nat) : (l.take n).all inV = true := List.all_eq_true.2 fun x hx => h x (List.mem_of_mem_take hx)
theorem pre_take {l : List S24} {b : Bool} (h : ∀ x ∈ l, inV x = true) (hb : b = true) : preB (l.take 60) b = true := by
 unfold preB
 rw [inV_take h, hb, decide_eq_true (by rw [List.length_take]; omega)]; rfl
theorem looks_all (l : List S24) (k0 k1 : Int) (h : ∀ x ∈ l, inV x = true) (hk : inV ⟨k0, k1⟩ = true) : ∃ k, tallowlaw09_DictLooks.f k l k0 k1 = some true := by
 refine Ev.at (f := fun k => tallowlaw09_DictLooks.f k l k0 k1) ?_
 unfold tallowlaw09_DictLooks.f
 have hl : (l.take 60).length ≤ 100000 := by rw [List.length_take]; omega
 have hp := pre_take (b := true) h rfl
 have hp2 := pre_take (b := inV ⟨k0, k1⟩) h hk
 obtain ⟨t, ht⟩ : ∃ t, t = l.take 60 := ⟨_, rfl⟩
 rw [← ht] at hl hp hp2
 have e0 : tallowlaw09_own.f l = some t := by rw [ht, own_eq]
 have e1 : dict_Check.f t = some (okS t) := if_pos hp
 have e2 : dict_Len.f t = some (lenS t) := if_pos hp
 have e3 : dict_Get.f t k0 k1 = some ((getS t ⟨k0, k1⟩).f0, (getS t ⟨k0, k1⟩).f1) := if_pos hp2
 refine Ev.bind (Ev.of fun _ => e0) (Ev.bind (Ev.of fun _ => e1) ?_)
 refine Ev.bind (echeck t hl) (Ev.pos (by simp) ?_)
 refine Ev.bind (Ev.of fun _ => e2) ?_
 refine Ev.bind (elen t hl) (Ev.pos rfl ?_)
 refine Ev.bind (Ev.of fun _ => e3) ?_
 refine Ev.bind (eget t ⟨k0, k1⟩ hl) (Ev.pos (by simp) ?_)
 have n1 : dict_New.f = some [⟨1, 0⟩, ⟨3, 0⟩] := rfl
 have n2 : tallowref09_New.f = some [⟨1, 0⟩, ⟨3, 0⟩] := rfl
 refine Ev.bind (Ev.of fun _ => n1) (Ev.bind (Ev.of fun _ => n2) ?_)
 refine Ev.bind (evalues _ (by decide)) (Ev.pos rfl ?_)
 exact Ev.bind eworks (Ev.pure _)
theorem okV {l : List S24} (ok : ∀ y ∈ l, (Lit.int .i64 y.f0).wf = true ∧ (Lit.int .i64 y.f1).wf = true) : ∀ x ∈ l, inV x = true := fun x hx => by
 obtain ⟨h1, h2⟩ := ok x hx
 unfold inV inR
 rw [h1, h2]; rfl
theorem okK {a b : Int} (ok : (Lit.int .i64 a).wf = true ∧ (Lit.int .i64 b).wf = true) : inV ⟨a, b⟩ = true := by
 unfold inV inR
 rw [show (Lit.int .i64 (⟨a, b⟩ : S24).f0).wf = true from ok.1, show (Lit.int .i64 (⟨a, b⟩ : S24).f1).wf = true from ok.2]; rfl
theorem dictLooks (l : List S24) (k0 k1 : Int) (ok0 : l.length * 16 ≤ 140737488351232 ∧ ∀ y ∈ l, (Lit.int .i64 y.f0).wf = true ∧ (Lit.int .i64 y.f1).wf = true) (ok1 : (Lit.int .i64 k0).wf = true ∧ (Lit.int .i64 k1).wf = true) : ∃ k, tallowlaw09_DictLooks.f k l k0 k1 = some true :=
 looks_all l k0 k1 (okV ok0.2) (okK ok1)
end Go.Proofs.YtadhkfklkbdabaaR.G
end
