import Derived.Shelf.Abstract
import Derived.LaidEql
import Derived.Stop.Asserts
import Derived.RowKitTokens
import Derived.Lib.LaidTab
import Derived.Lib.AppendIntMem
import Derived.Test.YtilmmmpbcgobaaaDoorGxF9
import Derived.Test.YtilmmmpbcgobaaaDoorZb
import Derived.Lib.Hide
namespace Go.Proofs.YtilmmmpbcgobaaaDoor.G
open Go.Shelf Go.Extern.Stop Go.Stop Go.Extern Go.RowKit Go.Proofs.YtilmmmpbcgobaaaDoorW.PrintWords Go.Proofs.YtilmmmpbcgobaaaDoorW.PrintLast Go.Proofs.YtilmmmpbcgobaaaDoorW.PrintMore
set_option linter.unusedVariables false
set_option linter.unusedSimpArgs false
theorem b_or (x y : Nat) : (x &&& y) ||| (x ^^^ y) = x ||| y := by
  apply Nat.eq_of_testBit_eq; intro i
  simp only [Nat.testBit_or, Nat.testBit_and, Nat.testBit_xor]
  cases x.testBit i <;> cases y.testBit i <;> rfl
theorem b_and (x y : Nat) : (x &&& y) &&& (x ^^^ y) = 0 := by
  apply Nat.eq_of_testBit_eq; intro i
  simp only [Nat.testBit_and, Nat.testBit_xor, Nat.zero_testBit]
  cases x.testBit i <;> cases y.testBit i <;> rfl
theorem b_xor (x y : Nat) : (x ^^^ y) ^^^ y = x := by
  apply Nat.eq_of_testBit_eq; intro i
  simp only [Nat.testBit_xor]
  cases x.testBit i <;> cases y.testBit i <;> rfl
theorem b_not {x : Nat} (h : x < 2 ^ 64) : x ^^^ (2 ^ 64 - 1) = 2 ^ 64 - 1 - x := by
  have h1 := xor_and x (2 ^ 64 - 1)
  rw [Nat.and_two_pow_sub_one_of_lt_two_pow h] at h1
  omega
theorem nb_m1 : nb (-1) = 2 ^ 64 - 1 := by unfold nb; rfl
theorem numBits (a b : Int) (ha : (Lit.int .i64 a).wf = true) (hb : (Lit.int .i64 b).wf = true) : tallowlaw01_NumBits.f a b = some true := by
  have ra := wf_i64 ha
  have hx := nb_lt a
  have hy := nb_lt b
  have l1 : (nb a &&& nb b) < 2 ^ 64 := Nat.lt_of_le_of_lt Nat.and_le_left hx
  have l2 : (nb a ||| nb b) < 2 ^ 64 := Nat.or_lt_two_pow hx hy
  have l3 : (nb a ^^^ nb b) < 2 ^ 64 := Nat.xor_lt_two_pow hx hy
  obtain ⟨t0, q0⟩ : ∃ t, wrap64 ((nb a &&& nb b : Nat) : Int) = t := ⟨_, rfl⟩
  obtain ⟨t1, q1⟩ : ∃ t, wrap64 ((nb a ||| nb b : Nat) : Int) = t := ⟨_, rfl⟩
  obtain ⟨t2, q2⟩ : ∃ t, wrap64 ((nb a ^^^ nb b : Nat) : Int) = t := ⟨_, rfl⟩
  have n0 : nb t0 = nb a &&& nb b := by rw [← q0, nb_w, nb_nat l1]
  have n2 : nb t2 = nb a ^^^ nb b := by rw [← q2, nb_w, nb_nat l3]
  have e0 : tallowlaw01_do.f 5 a b = some t0 := by rw [do_and, and_i64, q0]
  have e1 : tallowlaw01_do.f 6 a b = some t1 := by rw [do_or, or_i64, q1]
  have e2 : tallowlaw01_do.f 7 a b = some t2 := by rw [do_xor, xor_i64, q2]
  have e3 : tallowlaw01_do.f 6 t0 t2 = some t1 := by rw [do_or, or_i64, n0, n2, b_or, q1]
  have e4 : tallowlaw01_do.f 5 t0 t2 = some 0 := by rw [do_and, and_i64, n0, n2, b_and, w_id (x := ((0 : Nat) : Int)) (by omega)]; rfl
  have e5 : tallowlaw01_do.f 0 t0 t1 = some (wrap64 (a + b)) := by
    rw [do_add, ← q0, ← q1, w_add, w_add']
    have h1 := or_and (nb a) (nb b)
    have h2 : ((nb a &&& nb b : Nat) : Int) + ((nb a ||| nb b : Nat) : Int) = (nb a : Int) + (nb b : Int) := by omega
    rw [h2, ← w_add, ← w_add', w_nb, w_nb, w_add, w_add']
  have e6 := do_add a b
  have e7 : tallowlaw01_do.f 7 t2 b = some a := by rw [do_xor, xor_i64, n2, b_xor, w_nb, w_id ra]
  have e8 : tallowlaw01_do.f 7 a (-1) = some (wrap64 (-a - 1)) := by
    rw [do_xor, xor_i64, nb_m1, b_not hx]
    congr 1
    have : ((2 ^ 64 - 1 - nb a : Nat) : Int) = 18446744073709551615 - (nb a : Int) := by omega
    rw [this]
    unfold nb wrap64
    omega
  have e9 := do_sub 0 a
  have e10 : tallowlaw01_do.f 1 (wrap64 (0 - a)) 1 = some (wrap64 (-a - 1)) := by rw [do_sub, w_sub]; congr 2; omega
  unfold tallowlaw01_NumBits.f
  rw [e0, Option.bind_some, e1, Option.bind_some, e2, Option.bind_some, e3, Option.bind_some, if_pos rfl, e4, Option.bind_some, if_pos rfl, e5, Option.bind_some, e6, Option.bind_some, if_pos rfl, e7, Option.bind_some, if_pos rfl, e8, Option.bind_some, e9, Option.bind_some, e10, Option.bind_some, if_pos rfl, works_ok]
  rfl
end Go.Proofs.YtilmmmpbcgobaaaDoor.G
