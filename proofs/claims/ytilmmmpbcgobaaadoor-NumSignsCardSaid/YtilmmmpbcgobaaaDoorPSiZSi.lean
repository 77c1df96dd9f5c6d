import Derived.Shelf.Abstract
import Derived.LaidEql
import Derived.Stop.Asserts
import Derived.RowKitTokens
import Derived.Lib.LaidTab
import Derived.Lib.AppendIntMem
import Derived.Lib.ItoaLen
import Derived.Test.YtilmmmpbcgobaaaDoorPSiZb
import Derived.Test.YtilmmmpbcgobaaaDoorPSiGxF11
import Derived.Lib.Hide
set_option linter.unusedVariables false
set_option linter.unusedSimpArgs false
section
namespace Go.Proofs.YtilmmmpbcgobaaaDoor.G
open Go.Shelf Go.Extern.Stop Go.Stop Go.Extern Go.RowKit Go.Proofs.YtilmmmpbcgobaaaDoorW.PrintWords Go.Proofs.YtilmmmpbcgobaaaDoorW.PrintLast Go.Proofs.YtilmmmpbcgobaaaDoorW.PrintMore
set_option linter.unusedVariables false
set_option linter.unusedSimpArgs false
theorem ten {a : Int} (h : ¬ a < 0) (h9 : ¬ 9 < a) : a = 0 ∨ a = 1 ∨ a = 2 ∨ a = 3 ∨ a = 4 ∨ a = 5 ∨ a = 6 ∨ a = 7 ∨ a = 8 ∨ a = 9 := by omega
theorem sign_same (a : Int) : tallowref01_Sign.f a = num_Sign.f a := by
  by_cases h0 : a < 0
  · unfold tallowref01_Sign.f num_Sign.f
    rw [Option.bind_some, if_pos h0, if_pos (.inl h0)]
  · by_cases h9 : 9 < a
    · unfold tallowref01_Sign.f num_Sign.f
      rw [Option.bind_some, if_neg h0, if_pos (show a ≥ _ from by show (10 : Int) ≤ a; omega), if_pos (.inr h9)]
    · rcases ten h0 h9 with rfl | rfl | rfl | rfl | rfl | rfl | rfl | rfl | rfl | rfl <;> rfl
theorem sign_any (a : Int) : ∃ s, num_Sign.f a = some s := by
  by_cases h0 : a < 0
  · exact ⟨_, by unfold num_Sign.f; rw [if_pos (.inl h0)]⟩
  · by_cases h9 : 9 < a
    · exact ⟨_, by unfold num_Sign.f; rw [if_pos (.inr h9)]⟩
    · rcases ten h0 h9 with rfl | rfl | rfl | rfl | rfl | rfl | rfl | rfl | rfl | rfl <;> exact ⟨_, rfl⟩
theorem op_same (s : ByteArray) : ∀ d k : Nat, k + d = 10 → Ev (fun n => tallowref01_Op.l0 n s k) (firstN s (signsL.drop k) k)
  | 0, k, h => by
    obtain rfl : k = 10 := by omega
    exact Ev.step (f := fun _ => some (-1)) (fun n => by rw [tallowref01_Op.l0]; rfl) (Ev.now (-1))
  | d + 1, k, h => by
    have hk : k < 10 := by omega
    obtain ⟨x, hx⟩ : ∃ x, signsL[k]? = some x := ⟨_, List.getElem?_eq_getElem (by show k < 10; omega)⟩
    have hd : signsL.drop k = x :: signsL.drop (k + 1) := by
      obtain ⟨hl, he⟩ := List.getElem?_eq_some_iff.1 hx
      rw [List.drop_eq_getElem_cons hl, he]
    have hs : tallowref01_Sign.f (k : Int) = some x := by
      rw [sign_same]; unfold num_Sign.f
      rw [if_neg (by omega), Int.toNat_natCast, hx]
    have hw : wrap64 ((k : Int) + 1) = ((k + 1 : Nat) : Int) := by unfold wrap64; omega
    have ih := op_same s d (k + 1) (by omega)
    rw [hd]
    unfold firstN
    by_cases e : x.toList = s.toList
    · rw [if_pos (beq_iff_eq.2 e)]
      exact Ev.step (f := fun _ => some (k : Int)) (fun n => by rw [tallowref01_Op.l0, if_pos (by omega), hs, Option.bind_some, if_pos e]) (Ev.now _)
    · rw [if_neg (fun h => e (beq_iff_eq.1 h))]
      exact Ev.step (f := fun n => tallowref01_Op.l0 n s ((k + 1 : Nat) : Int)) (fun n => by rw [tallowref01_Op.l0, if_pos (by omega), hs, Option.bind_some, if_neg e, hw]) ih
theorem op_ev (s : ByteArray) : Ev (fun n => tallowref01_Op.f n s) (firstN s signsL 0) := op_same s 10 0 rfl
theorem numSigns (a : Int) (s : ByteArray) (ha : (Lit.int .i64 a).wf = true) (hs : s.size ≤ 140737488351232) : ∃ k, tallowlaw01_NumSigns.f k a s = some true := by
  suffices h : Ev (fun k => tallowlaw01_NumSigns.f k a s) true from h.rounds
  obtain ⟨t, ht⟩ := sign_any a
  have m0 : 0 ≤ mn (s.size : Int) 100 := by unfold mn; split <;> omega
  have m1 : mn (s.size : Int) 100 ≤ (s.size : Int) := by unfold mn; split <;> omega
  obtain ⟨p, hp⟩ : ∃ p, s.extract 0 (mn (s.size : Int) 100).toNat = p := ⟨_, rfl⟩
  refine Ev.congr (f := fun k => (tallowref01_Op.f k p).bind fun t272 => (if firstN p signsL 0 = t272 then ((tallowref01_Op.f k t).bind fun t276 => (if firstN t signsL 0 = t276 then ((tallowlaw01_works.f).bind fun t277 => (some t277)) else (some false))) else (some false))) (fun k => by
    unfold tallowlaw01_NumSigns.f
    rw [if_pos m0, if_pos m1, hp, sign_same, ht, Option.bind_some, Option.bind_some, if_pos rfl]
    rfl) ?_
  refine Ev.bind (f := fun k t272 => (if firstN p signsL 0 = t272 then ((tallowref01_Op.f k t).bind fun t276 => (if firstN t signsL 0 = t276 then ((tallowlaw01_works.f).bind fun t277 => (some t277)) else (some false))) else (some false))) (op_ev p) ?_
  refine Ev.congr (f := fun k => (tallowref01_Op.f k t).bind fun t276 => (if firstN t signsL 0 = t276 then ((tallowlaw01_works.f).bind fun t277 => (some t277)) else (some false))) (fun k => by rw [if_pos rfl]) ?_
  refine Ev.bind (f := fun k t276 => (if firstN t signsL 0 = t276 then ((tallowlaw01_works.f).bind fun t277 => (some t277)) else (some false))) (op_ev t) ?_
  exact Ev.congr (f := fun _ => some true) (fun k => by rw [if_pos rfl, works_ok]; rfl) (Ev.now true)
end Go.Proofs.YtilmmmpbcgobaaaDoor.G
end
