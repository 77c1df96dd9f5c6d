import Derived.Shelf.Abstract
import Derived.LaidEql
import Derived.Stop.Asserts
import Derived.RowKitTokens
import Derived.Lib.LaidTab
import Derived.Lib.AppendIntMem
import Derived.Test.YtilmmmpbcgobaaaDoorPDoZb
import Derived.Lib.Hide
set_option linter.unusedVariables false
set_option linter.unusedSimpArgs false
section
namespace Go.Proofs.YtilmmmpbcgobaaaDoor.G
open Go.Shelf Go.Extern.Stop Go.Stop Go.Extern Go.RowKit Go.Proofs.YtilmmmpbcgobaaaDoorW.PrintWords Go.Proofs.YtilmmmpbcgobaaaDoorW.PrintLast Go.Proofs.YtilmmmpbcgobaaaDoorW.PrintMore
set_option linter.unusedVariables false
set_option linter.unusedSimpArgs false
theorem parts_spec {a b : Int} (ha : -9223372036854775808 ≤ a ∧ a < 9223372036854775808) (hb : -9223372036854775808 ≤ b ∧ b < 9223372036854775808) (h : b ≠ 0) :
    ∃ Q r, num_parts.f a b = some (wrap64 Q, r) ∧ a = b * Q + r ∧ ((0 < b ∧ 0 ≤ r ∧ r < b) ∨ (b < 0 ∧ b < r ∧ r ≤ 0)) := by
  unfold num_parts.f
  by_cases hm : b = -1
  · subst hm
    exact ⟨-a, 0, by rw [if_pos rfl], by omega, .inr ⟨by decide, by decide, by decide⟩⟩
  rw [if_neg hm, if_neg h]
  have e0 := Int.emod_add_mul_ediv a b
  have e1 := Int.emod_nonneg a h
  have e2 : a % b < (b.natAbs : Int) := by have := Int.emod_lt a h; omega
  have t1 : a.tmod b = a % b - if 0 ≤ a ∨ b ∣ a then 0 else (b.natAbs : Int) := by rw [Int.tmod_eq_emod]; congr 1; split <;> rfl
  have t2 : a.tdiv b = a / b + if 0 ≤ a ∨ b ∣ a then 0 else b.sign := Int.tdiv_eq_ediv
  have hsgn : (0 < b ∧ b.sign = 1 ∧ (b.natAbs : Int) = b) ∨ (b < 0 ∧ b.sign = -1 ∧ (b.natAbs : Int) = -b) := by
    rcases Int.lt_or_lt_of_ne h with h1 | h1
    · exact .inr ⟨h1, Int.sign_eq_neg_one_of_neg h1, by omega⟩
    · exact .inl ⟨h1, Int.sign_eq_one_of_pos h1, by omega⟩
  by_cases hd : 0 ≤ a ∨ b ∣ a
  · rw [if_pos hd] at t1 t2
    rw [Int.sub_zero] at t1
    rw [Int.add_zero] at t2
    rw [t1, t2]
    generalize a / b = D at *
    generalize a % b = e at *
    by_cases h0 : e = 0
    · exact ⟨D, e, by rw [if_pos h0], by omega, by rcases hsgn with ⟨p, _, _⟩ | ⟨p, _, _⟩ <;> omega⟩
    rw [if_neg h0]
    rcases hsgn with ⟨p, _, hn⟩ | ⟨p, _, hn⟩
    · rw [if_neg (by rw [decide_eq_false (by omega), decide_eq_false (by omega)]; decide)]
      exact ⟨D, e, rfl, by omega, .inl ⟨p, by omega, by omega⟩⟩
    · rw [if_pos (by rw [decide_eq_false (by omega), decide_eq_true p]; decide)]
      refine ⟨D - 1, e + b, by rw [w_sub, w_id (x := e + b) (by omega)], by rw [Int.mul_sub, Int.mul_one]; omega, .inr ⟨p, by omega, by omega⟩⟩
  · rw [if_neg hd] at t1 t2
    have hne : a % b ≠ 0 := fun e => hd (.inr (Int.dvd_of_emod_eq_zero e))
    rw [t1, t2]
    generalize a / b = D at *
    generalize a % b = e at *
    rcases hsgn with ⟨p, hs, hn⟩ | ⟨p, hs, hn⟩
    · rw [hs, hn, if_neg (by omega), if_pos (by rw [decide_eq_true (by omega), decide_eq_false (by omega)]; decide)]
      refine ⟨D, e, ?_, by omega, .inl ⟨p, by omega, by omega⟩⟩
      rw [w_sub, w_id (x := e - b + b) (by omega)]
      congr 2
      · congr 1; omega
      · omega
    · rw [hs, hn, if_neg (by omega), if_neg (by rw [decide_eq_true (by omega), decide_eq_true p]; decide)]
      refine ⟨D - 1, e + b, ?_, by rw [Int.mul_sub, Int.mul_one]; omega, .inr ⟨p, by omega, by omega⟩⟩
      congr 2
      omega
end Go.Proofs.YtilmmmpbcgobaaaDoor.G
end
