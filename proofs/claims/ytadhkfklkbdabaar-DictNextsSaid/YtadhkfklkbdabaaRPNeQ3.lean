import Derived.Deep.RegionLaw
import Derived.Deep.Cut
import Derived.WalkSpells
import Derived.Maps.OwnOps
import Derived.Maps.OwnSet
import Derived.Maps.Views
import Derived.Maps.Own
import Derived.DeepKeys5
import Derived.Outline
import Derived.Deep.AppendLies
import Derived.Laws.CopyRow
import Derived.Laws.CopyOwn
import Derived.StillTailTactics
import Derived.Test.YtadhkfklkbdabaaRPNeQ2
import Derived.Test.YtadhkfklkbdabaaRPNeGxF5
set_option linter.unusedVariables false
set_option linter.unusedSimpArgs false
section
namespace Go.Proofs.YtadhkfklkbdabaaR.G
open Go.RowKit Go.Proofs.YtadhkfklkbdabaaRW.PrintWords Go.Proofs.YtadhkfklkbdabaaRW.PrintLast Go.Proofs.YtadhkfklkbdabaaRW.PrintMore
set_option linter.unusedVariables false
set_option linter.unusedSimpArgs false
theorem own_eq (l : List S24) : tallowlaw09_own.f l = some (l.take 60) := by
 unfold tallowlaw09_own.f
 have h : (mn (l.length : Int) 60) = ((min l.length 60 : Nat) : Int) := by unfold mn; split <;> omega
 rw [h, if_pos (by omega), if_pos (by omega), Option.bind_some, Int.toNat_natCast, if_pos (by rw [List.length_take]; simp; omega)]
 rw [List.nil_append]
 congr 1
 rw [List.take_eq_take_iff]
 omega
theorem works_k : tallowlaw09_works.f 20 = some true := by decide +kernel
theorem eworks : Ev (fun f => tallowlaw09_works.f f) true := Ev.up (fun k => tallowlaw09_works.mono k) works_k
theorem arrN_int {l : List S24} (h : headB l = true) : (arrN l : Int) = (rd_T24 l 1).f1 ∧ 2 + arrN l ≤ l.length ∧ (arrS l).length = arrN l ∧ (prsS l).length = l.length - (2 + arrN l) := by
 have h1 := len_arr h
 unfold headB at h
 simp only [Bool.and_eq_true, decide_eq_true_eq, beq_iff_eq] at h
 obtain ⟨g0, g1, g2, g3⟩ := h
 unfold arrN at h1 ⊢
 refine ⟨by omega, by omega, h1, ?_⟩
 unfold prsS arrN
 rw [List.length_drop]
theorem okS_even2 {l : List S24} (h : okS l = true) : (prsS l).length % 2 = 0 := by
 unfold okS at h
 simp only [Bool.and_eq_true, beq_iff_eq] at h
 exact h.2.2.2.1
theorem pair_rel (l : List S24) (k : S24) (hl : l.length ≤ 100000) (h : okS l = true) : Ev (fun f => tallowref09_pair.f f l k.f0 k.f1) (match idxP k (prsS l) 0 with | some j => ((2 + arrN l + j : Nat) : Int) | none => 0) := by
 obtain ⟨a1, a2, a3, a4⟩ := arrN_int (headB_of h)
 have he := okS_even2 h
 unfold tallowref09_pair.f
 refine Ev.pos (by omega) ?_
 rw [← a1, wrapN (by omega) (by omega)]
 have := epair_l l k hl ((prsS l).length / 2) (2 + arrN l) (by omega)
 rw [show l.drop (2 + arrN l) = prsS l from rfl, idxP_at k (prsS l).length (prsS l) (2 + arrN l) (Nat.le_refl _)] at this
 cases hi : idxP k (prsS l) 0 with
 | none => rw [hi] at this; exact this
 | some j =>
  rw [hi] at this
  simp only [Option.map_some] at this
  rw [Nat.add_comm j] at this
  exact this
theorem rd_prs {l : List S24} {n : Nat} (i : Nat) : rd_T24 (l.drop n) (i : Int) = rd_T24 l ((n + i : Nat) : Int) := by
 unfold rd_T24
 rw [Int.toNat_natCast, Int.toNat_natCast, List.getD_eq_getElem?_getD, List.getD_eq_getElem?_getD, List.getElem?_drop]
theorem inV_take {l : List S24} (h : ∀ x ∈ l, inV x = true) (n : Nat) : (l.take n).all inV = true := List.all_eq_true.2 fun x hx => h x (List.mem_of_mem_take hx)
theorem pre_take {l : List S24} {b : Bool} (h : ∀ x ∈ l, inV x = true) (hb : b = true) : preB (l.take 60) b = true := by
 unfold preB
 rw [inV_take h, hb, decide_eq_true (by rw [List.length_take]; omega)]; rfl
theorem okV {l : List S24} (ok : ∀ y ∈ l, (Lit.int .i64 y.f0).wf = true ∧ (Lit.int .i64 y.f1).wf = true) : ∀ x ∈ l, inV x = true := fun x hx => by
 obtain ⟨h1, h2⟩ := ok x hx
 unfold inV inR
 rw [h1, h2]; rfl
theorem okK {a b : Int} (ok : (Lit.int .i64 a).wf = true ∧ (Lit.int .i64 b).wf = true) : inV ⟨a, b⟩ = true := by
 unfold inV inR
 rw [show (Lit.int .i64 (⟨a, b⟩ : S24).f0).wf = true from ok.1, show (Lit.int .i64 (⟨a, b⟩ : S24).f1).wf = true from ok.2]; rfl
end Go.Proofs.YtadhkfklkbdabaaR.G
end
