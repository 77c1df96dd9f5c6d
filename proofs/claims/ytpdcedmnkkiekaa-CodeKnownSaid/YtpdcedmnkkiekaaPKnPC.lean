import Derived.Test.YtpdcedmnkkiekaaPKnGxF4
set_option linter.unusedVariables false
set_option linter.unusedSimpArgs false
section
namespace Go.Proofs.Ytpdcedmnkkiekaa.Z
open Go.RowKit Go.Proofs.Ytpdcedmnkkiekaa.G Go.Proofs.YtpdcedmnkkiekaaW.PrintWords Go.Proofs.YtpdcedmnkkiekaaW.PrintLast Go.Proofs.YtpdcedmnkkiekaaW.PrintMore
set_option linter.unusedVariables false
set_option linter.unusedSimpArgs false
theorem w_sm {x : Int} (h : -1000000 ≤ x ∧ x ≤ 1000000) : wrap64 x = x := by unfold wrap64; omega
theorem may0 (regs : Int) (hr : 0 ≤ regs ∧ regs ≤ 250) (nu : Nat) (cs : List S46) (nc : Nat) (protos a b : Int) : mayI regs nu cs nc protos ⟨0, a, b⟩ = insK 0 regs nu nc cs protos a b := by
  have e : mayI regs nu cs nc protos ⟨0, a, b⟩ = mayF 1 (rbF 33 0 regs nu cs nc protos b) 0 a b regs := rfl
  rw [e]
  have er : rbF 33 0 regs nu cs nc protos b = (b == 0) := rfl
  rw [er]
  have ei : insK 0 regs nu nc cs protos a b = (decide (0 ≤ a ∧ a < regs) && (b == 0)) := rfl
  rw [ei]
  unfold mayF
  skip
  simp only [show ¬ ((0 : Int) = 18) from by decide, if_false]
  rw [w_sm (x := regs - 1) (by omega), w_sm (x := regs - 1 + 1) (by omega)]
  split
  · rename_i h
    symm
    rw [Bool.eq_false_iff]
    simp at h ⊢
    omega
  · rename_i h
    rw [Bool.eq_iff_iff]
    simp at h ⊢
    omega
theorem may1 (regs : Int) (hr : 0 ≤ regs ∧ regs ≤ 250) (nu : Nat) (cs : List S46) (nc : Nat) (protos a b : Int) : mayI regs nu cs nc protos ⟨1, a, b⟩ = insK 1 regs nu nc cs protos a b := by
  have e : mayI regs nu cs nc protos ⟨1, a, b⟩ = mayF 1 (rbF 49 2 regs nu cs nc protos b) 1 a b regs := rfl
  rw [e]
  have er : rbF 49 2 regs nu cs nc protos b = decide (0 ≤ b ∧ b < 2) := rfl
  rw [er]
  have ei : insK 1 regs nu nc cs protos a b = (decide (0 ≤ a ∧ a < regs) && ((b == 0) || (b == 1))) := rfl
  rw [ei]
  unfold mayF
  skip
  simp only [show ¬ ((1 : Int) = 18) from by decide, if_false]
  rw [w_sm (x := regs - 1) (by omega), w_sm (x := regs - 1 + 1) (by omega)]
  split
  · rename_i h
    symm
    rw [Bool.eq_false_iff]
    simp at h ⊢
    omega
  · rename_i h
    rw [Bool.eq_iff_iff]
    simp at h ⊢
    omega
theorem may2 (regs : Int) (hr : 0 ≤ regs ∧ regs ≤ 250) (nu : Nat) (cs : List S46) (nc : Nat) (protos a b : Int) : mayI regs nu cs nc protos ⟨2, a, b⟩ = insK 2 regs nu nc cs protos a b := by
  have e : mayI regs nu cs nc protos ⟨2, a, b⟩ = mayF 1 (rbF 35 0 regs nu cs nc protos b) 2 a b regs := rfl
  rw [e]
  have er : rbF 35 0 regs nu cs nc protos b = decide (0 ≤ b ∧ b < (cs.length : Int)) := rfl
  rw [er]
  have ei : insK 2 regs nu nc cs protos a b = (decide (0 ≤ a ∧ a < regs) && decide (0 ≤ b ∧ b < (cs.length : Int))) := rfl
  rw [ei]
  unfold mayF
  skip
  simp only [show ¬ ((2 : Int) = 18) from by decide, if_false]
  rw [w_sm (x := regs - 1) (by omega), w_sm (x := regs - 1 + 1) (by omega)]
  split
  · rename_i h
    symm
    rw [Bool.eq_false_iff]
    simp at h ⊢
    omega
  · rename_i h
    rw [Bool.eq_iff_iff]
    simp at h ⊢
    omega
theorem may3 (regs : Int) (hr : 0 ≤ regs ∧ regs ≤ 250) (nu : Nat) (cs : List S46) (nc : Nat) (protos a b : Int) : mayI regs nu cs nc protos ⟨3, a, b⟩ = insK 4 regs nu nc cs protos a b := by
  have e : mayI regs nu cs nc protos ⟨3, a, b⟩ = mayF 1 (rbF 36 0 regs nu cs nc protos b) 3 a b regs := rfl
  rw [e]
  have er : rbF 36 0 regs nu cs nc protos b = decide (0 ≤ b ∧ b < regs) := rfl
  rw [er]
  have ei : insK 4 regs nu nc cs protos a b = (decide (0 ≤ a ∧ a < regs) && decide (0 ≤ b ∧ b < regs)) := rfl
  rw [ei]
  unfold mayF
  skip
  simp only [show ¬ ((3 : Int) = 18) from by decide, if_false]
  rw [w_sm (x := regs - 1) (by omega), w_sm (x := regs - 1 + 1) (by omega)]
  split
  · rename_i h
    symm
    rw [Bool.eq_false_iff]
    simp at h ⊢
    omega
  · rename_i h
    rw [Bool.eq_iff_iff]
    simp at h ⊢
    omega
theorem may4 (regs : Int) (hr : 0 ≤ regs ∧ regs ≤ 250) (nu : Nat) (cs : List S46) (nc : Nat) (protos a b : Int) : mayI regs nu cs nc protos ⟨4, a, b⟩ = insK 4 regs nu nc cs protos a b := by
  have e : mayI regs nu cs nc protos ⟨4, a, b⟩ = mayF 1 (rbF 36 0 regs nu cs nc protos b) 4 a b regs := rfl
  rw [e]
  have er : rbF 36 0 regs nu cs nc protos b = decide (0 ≤ b ∧ b < regs) := rfl
  rw [er]
  have ei : insK 4 regs nu nc cs protos a b = (decide (0 ≤ a ∧ a < regs) && decide (0 ≤ b ∧ b < regs)) := rfl
  rw [ei]
  unfold mayF
  skip
  simp only [show ¬ ((4 : Int) = 18) from by decide, if_false]
  rw [w_sm (x := regs - 1) (by omega), w_sm (x := regs - 1 + 1) (by omega)]
  split
  · rename_i h
    symm
    rw [Bool.eq_false_iff]
    simp at h ⊢
    omega
  · rename_i h
    rw [Bool.eq_iff_iff]
    simp at h ⊢
    omega
theorem may5 (regs : Int) (hr : 0 ≤ regs ∧ regs ≤ 250) (nu : Nat) (cs : List S46) (nc : Nat) (protos a b : Int) : mayI regs nu cs nc protos ⟨5, a, b⟩ = insK 0 regs nu nc cs protos a b := by
  have e : mayI regs nu cs nc protos ⟨5, a, b⟩ = mayF 1 (rbF 33 0 regs nu cs nc protos b) 5 a b regs := rfl
  rw [e]
  have er : rbF 33 0 regs nu cs nc protos b = (b == 0) := rfl
  rw [er]
  have ei : insK 0 regs nu nc cs protos a b = (decide (0 ≤ a ∧ a < regs) && (b == 0)) := rfl
  rw [ei]
  unfold mayF
  skip
  simp only [show ¬ ((5 : Int) = 18) from by decide, if_false]
  rw [w_sm (x := regs - 1) (by omega), w_sm (x := regs - 1 + 1) (by omega)]
  split
  · rename_i h
    symm
    rw [Bool.eq_false_iff]
    simp at h ⊢
    omega
  · rename_i h
    rw [Bool.eq_iff_iff]
    simp at h ⊢
    omega
theorem may6 (regs : Int) (hr : 0 ≤ regs ∧ regs ≤ 250) (nu : Nat) (cs : List S46) (nc : Nat) (protos a b : Int) : mayI regs nu cs nc protos ⟨6, a, b⟩ = insK 5 regs nu nc cs protos a b := by
  have e : mayI regs nu cs nc protos ⟨6, a, b⟩ = mayF 1 (rbF 37 0 regs nu cs nc protos b) 6 a b regs := rfl
  rw [e]
  have er : rbF 37 0 regs nu cs nc protos b = decide (0 ≤ b ∧ b < (nu : Int)) := rfl
  rw [er]
  have ei : insK 5 regs nu nc cs protos a b = (decide (0 ≤ a ∧ a < regs) && decide (0 ≤ b ∧ b < (nu : Int))) := rfl
  rw [ei]
  unfold mayF
  skip
  simp only [show ¬ ((6 : Int) = 18) from by decide, if_false]
  rw [w_sm (x := regs - 1) (by omega), w_sm (x := regs - 1 + 1) (by omega)]
  split
  · rename_i h
    symm
    rw [Bool.eq_false_iff]
    simp at h ⊢
    omega
  · rename_i h
    rw [Bool.eq_iff_iff]
    simp at h ⊢
    omega
theorem may7 (regs : Int) (hr : 0 ≤ regs ∧ regs ≤ 250) (nu : Nat) (cs : List S46) (nc : Nat) (protos a b : Int) : mayI regs nu cs nc protos ⟨7, a, b⟩ = insK 5 regs nu nc cs protos a b := by
  have e : mayI regs nu cs nc protos ⟨7, a, b⟩ = mayF 1 (rbF 37 0 regs nu cs nc protos b) 7 a b regs := rfl
  rw [e]
  have er : rbF 37 0 regs nu cs nc protos b = decide (0 ≤ b ∧ b < (nu : Int)) := rfl
  rw [er]
  have ei : insK 5 regs nu nc cs protos a b = (decide (0 ≤ a ∧ a < regs) && decide (0 ≤ b ∧ b < (nu : Int))) := rfl
  rw [ei]
  unfold mayF
  skip
  simp only [show ¬ ((7 : Int) = 18) from by decide, if_false]
  rw [w_sm (x := regs - 1) (by omega), w_sm (x := regs - 1 + 1) (by omega)]
  split
  · rename_i h
    symm
    rw [Bool.eq_false_iff]
    simp at h ⊢
    omega
  · rename_i h
    rw [Bool.eq_iff_iff]
    simp at h ⊢
    omega
theorem may8 (regs : Int) (hr : 0 ≤ regs ∧ regs ≤ 250) (nu : Nat) (cs : List S46) (nc : Nat) (protos a b : Int) : mayI regs nu cs nc protos ⟨8, a, b⟩ = insK 0 regs nu nc cs protos a b := by
  have e : mayI regs nu cs nc protos ⟨8, a, b⟩ = mayF 1 (rbF 33 0 regs nu cs nc protos b) 8 a b regs := rfl
  rw [e]
  have er : rbF 33 0 regs nu cs nc protos b = (b == 0) := rfl
  rw [er]
  have ei : insK 0 regs nu nc cs protos a b = (decide (0 ≤ a ∧ a < regs) && (b == 0)) := rfl
  rw [ei]
  unfold mayF
  skip
  simp only [show ¬ ((8 : Int) = 18) from by decide, if_false]
  rw [w_sm (x := regs - 1) (by omega), w_sm (x := regs - 1 + 1) (by omega)]
  split
  · rename_i h
    symm
    rw [Bool.eq_false_iff]
    simp at h ⊢
    omega
  · rename_i h
    rw [Bool.eq_iff_iff]
    simp at h ⊢
    omega
theorem may9 (regs : Int) (hr : 0 ≤ regs ∧ regs ≤ 250) (nu : Nat) (cs : List S46) (nc : Nat) (protos a b : Int) : mayI regs nu cs nc protos ⟨9, a, b⟩ = insK 4 regs nu nc cs protos a b := by
  have e : mayI regs nu cs nc protos ⟨9, a, b⟩ = mayF 1 (rbF 36 0 regs nu cs nc protos b) 9 a b regs := rfl
  rw [e]
  have er : rbF 36 0 regs nu cs nc protos b = decide (0 ≤ b ∧ b < regs) := rfl
  rw [er]
  have ei : insK 4 regs nu nc cs protos a b = (decide (0 ≤ a ∧ a < regs) && decide (0 ≤ b ∧ b < regs)) := rfl
  rw [ei]
  unfold mayF
  skip
  simp only [show ¬ ((9 : Int) = 18) from by decide, if_false]
  rw [w_sm (x := regs - 1) (by omega), w_sm (x := regs - 1 + 1) (by omega)]
  split
  · rename_i h
    symm
    rw [Bool.eq_false_iff]
    simp at h ⊢
    omega
  · rename_i h
    rw [Bool.eq_iff_iff]
    simp at h ⊢
    omega
theorem may10 (regs : Int) (hr : 0 ≤ regs ∧ regs ≤ 250) (nu : Nat) (cs : List S46) (nc : Nat) (protos a b : Int) : mayI regs nu cs nc protos ⟨10, a, b⟩ = insK 4 regs nu nc cs protos a b := by
  have e : mayI regs nu cs nc protos ⟨10, a, b⟩ = mayF 1 (rbF 36 0 regs nu cs nc protos b) 10 a b regs := rfl
  rw [e]
  have er : rbF 36 0 regs nu cs nc protos b = decide (0 ≤ b ∧ b < regs) := rfl
  rw [er]
  have ei : insK 4 regs nu nc cs protos a b = (decide (0 ≤ a ∧ a < regs) && decide (0 ≤ b ∧ b < regs)) := rfl
  rw [ei]
  unfold mayF
  skip
  simp only [show ¬ ((10 : Int) = 18) from by decide, if_false]
  rw [w_sm (x := regs - 1) (by omega), w_sm (x := regs - 1 + 1) (by omega)]
  split
  · rename_i h
    symm
    rw [Bool.eq_false_iff]
    simp at h ⊢
    omega
  · rename_i h
    rw [Bool.eq_iff_iff]
    simp at h ⊢
    omega
theorem may11 (regs : Int) (hr : 0 ≤ regs ∧ regs ≤ 250) (nu : Nat) (cs : List S46) (nc : Nat) (protos a b : Int) : mayI regs nu cs nc protos ⟨11, a, b⟩ = insK 3 regs nu nc cs protos a b := by
  have e : mayI regs nu cs nc protos ⟨11, a, b⟩ = mayF 1 (rbF 38 0 regs nu cs nc protos b) 11 a b regs := rfl
  rw [e]
  have er : rbF 38 0 regs nu cs nc protos b = (decide (0 ≤ b ∧ b < (cs.length : Int)) && ((rd_T46 cs b).f0 == 5)) := rfl
  rw [er]
  have ei : insK 3 regs nu nc cs protos a b = (decide (0 ≤ a ∧ a < regs) && (decide (0 ≤ b ∧ b < (cs.length : Int)) && ((rd_T46 cs b).f0 == 5))) := rfl
  rw [ei]
  unfold mayF
  generalize (rd_T46 cs b).f0 = z
  simp only [show ¬ ((11 : Int) = 18) from by decide, if_false]
  rw [w_sm (x := regs - 1) (by omega), w_sm (x := regs - 1 + 1) (by omega)]
  split
  · rename_i h
    symm
    rw [Bool.eq_false_iff]
    simp at h ⊢
    omega
  · rename_i h
    rw [Bool.eq_iff_iff]
    simp at h ⊢
    omega
theorem may12 (regs : Int) (hr : 0 ≤ regs ∧ regs ≤ 250) (nu : Nat) (cs : List S46) (nc : Nat) (protos a b : Int) : mayI regs nu cs nc protos ⟨12, a, b⟩ = insK 3 regs nu nc cs protos a b := by
  have e : mayI regs nu cs nc protos ⟨12, a, b⟩ = mayF 1 (rbF 38 0 regs nu cs nc protos b) 12 a b regs := rfl
  rw [e]
  have er : rbF 38 0 regs nu cs nc protos b = (decide (0 ≤ b ∧ b < (cs.length : Int)) && ((rd_T46 cs b).f0 == 5)) := rfl
  rw [er]
  have ei : insK 3 regs nu nc cs protos a b = (decide (0 ≤ a ∧ a < regs) && (decide (0 ≤ b ∧ b < (cs.length : Int)) && ((rd_T46 cs b).f0 == 5))) := rfl
  rw [ei]
  unfold mayF
  generalize (rd_T46 cs b).f0 = z
  simp only [show ¬ ((12 : Int) = 18) from by decide, if_false]
  rw [w_sm (x := regs - 1) (by omega), w_sm (x := regs - 1 + 1) (by omega)]
  split
  · rename_i h
    symm
    rw [Bool.eq_false_iff]
    simp at h ⊢
    omega
  · rename_i h
    rw [Bool.eq_iff_iff]
    simp at h ⊢
    omega
theorem may13 (regs : Int) (hr : 0 ≤ regs ∧ regs ≤ 250) (nu : Nat) (cs : List S46) (nc : Nat) (protos a b : Int) : mayI regs nu cs nc protos ⟨13, a, b⟩ = insK 0 regs nu nc cs protos a b := by
  have e : mayI regs nu cs nc protos ⟨13, a, b⟩ = mayF 1 (rbF 33 0 regs nu cs nc protos b) 13 a b regs := rfl
  rw [e]
  have er : rbF 33 0 regs nu cs nc protos b = (b == 0) := rfl
  rw [er]
  have ei : insK 0 regs nu nc cs protos a b = (decide (0 ≤ a ∧ a < regs) && (b == 0)) := rfl
  rw [ei]
  unfold mayF
  skip
  simp only [show ¬ ((13 : Int) = 18) from by decide, if_false]
  rw [w_sm (x := regs - 1) (by omega), w_sm (x := regs - 1 + 1) (by omega)]
  split
  · rename_i h
    symm
    rw [Bool.eq_false_iff]
    simp at h ⊢
    omega
  · rename_i h
    rw [Bool.eq_iff_iff]
    simp at h ⊢
    omega
theorem may14 (regs : Int) (hr : 0 ≤ regs ∧ regs ≤ 250) (nu : Nat) (cs : List S46) (nc : Nat) (protos a b : Int) : mayI regs nu cs nc protos ⟨14, a, b⟩ = insK 6 regs nu nc cs protos a b := by
  have e : mayI regs nu cs nc protos ⟨14, a, b⟩ = mayF 2 (rbF 33 0 regs nu cs nc protos b) 14 a b regs := rfl
  rw [e]
  have er : rbF 33 0 regs nu cs nc protos b = (b == 0) := rfl
  rw [er]
  have ei : insK 6 regs nu nc cs protos a b = (decide (0 ≤ a ∧ a < wrap64 (regs - 1)) && (b == 0)) := rfl
  rw [ei]
  unfold mayF
  skip
  simp only [show ¬ ((14 : Int) = 18) from by decide, if_false]
  rw [w_sm (x := regs - 2) (by omega), w_sm (x := regs - 2 + 1) (by omega)]
  rw [w_sm (x := regs - 1) (by omega)]
  split
  · rename_i h
    symm
    rw [Bool.eq_false_iff]
    simp at h ⊢
    omega
  · rename_i h
    rw [Bool.eq_iff_iff]
    simp at h ⊢
    omega
theorem may15 (regs : Int) (hr : 0 ≤ regs ∧ regs ≤ 250) (nu : Nat) (cs : List S46) (nc : Nat) (protos a b : Int) : mayI regs nu cs nc protos ⟨15, a, b⟩ = insK 9 regs nu nc cs protos a b := by
  have e : mayI regs nu cs nc protos ⟨15, a, b⟩ = mayF 3 (rbF 33 0 regs nu cs nc protos b) 15 a b regs := rfl
  rw [e]
  have er : rbF 33 0 regs nu cs nc protos b = (b == 0) := rfl
  rw [er]
  have ei : insK 9 regs nu nc cs protos a b = (decide (0 ≤ a ∧ a < wrap64 (regs - 2)) && (b == 0)) := rfl
  rw [ei]
  unfold mayF
  skip
  simp only [show ¬ ((15 : Int) = 18) from by decide, if_false]
  rw [w_sm (x := regs - 3) (by omega), w_sm (x := regs - 3 + 1) (by omega)]
  rw [w_sm (x := regs - 2) (by omega)]
  split
  · rename_i h
    symm
    rw [Bool.eq_false_iff]
    simp at h ⊢
    omega
  · rename_i h
    rw [Bool.eq_iff_iff]
    simp at h ⊢
    omega
theorem may16 (regs : Int) (hr : 0 ≤ regs ∧ regs ≤ 250) (nu : Nat) (cs : List S46) (nc : Nat) (protos a b : Int) : mayI regs nu cs nc protos ⟨16, a, b⟩ = insK 9 regs nu nc cs protos a b := by
  have e : mayI regs nu cs nc protos ⟨16, a, b⟩ = mayF 3 (rbF 33 0 regs nu cs nc protos b) 16 a b regs := rfl
  rw [e]
  have er : rbF 33 0 regs nu cs nc protos b = (b == 0) := rfl
  rw [er]
  have ei : insK 9 regs nu nc cs protos a b = (decide (0 ≤ a ∧ a < wrap64 (regs - 2)) && (b == 0)) := rfl
  rw [ei]
  unfold mayF
  skip
  simp only [show ¬ ((16 : Int) = 18) from by decide, if_false]
  rw [w_sm (x := regs - 3) (by omega), w_sm (x := regs - 3 + 1) (by omega)]
  rw [w_sm (x := regs - 2) (by omega)]
  split
  · rename_i h
    symm
    rw [Bool.eq_false_iff]
    simp at h ⊢
    omega
  · rename_i h
    rw [Bool.eq_iff_iff]
    simp at h ⊢
    omega
theorem may17 (regs : Int) (hr : 0 ≤ regs ∧ regs ≤ 250) (nu : Nat) (cs : List S46) (nc : Nat) (protos a b : Int) : mayI regs nu cs nc protos ⟨17, a, b⟩ = insK 10 regs nu nc cs protos a b := by
  have e : mayI regs nu cs nc protos ⟨17, a, b⟩ = mayF 1 (rbF 39 0 regs nu cs nc protos b) 17 a b regs := rfl
  rw [e]
  have er : rbF 39 0 regs nu cs nc protos b = decide (0 < b ∧ b < protos) := rfl
  rw [er]
  have ei : insK 10 regs nu nc cs protos a b = (decide (0 ≤ a ∧ a < regs) && (decide (0 < b) && decide (b < protos))) := rfl
  rw [ei]
  unfold mayF
  skip
  simp only [show ¬ ((17 : Int) = 18) from by decide, if_false]
  rw [w_sm (x := regs - 1) (by omega), w_sm (x := regs - 1 + 1) (by omega)]
  split
  · rename_i h
    symm
    rw [Bool.eq_false_iff]
    simp at h ⊢
    omega
  · rename_i h
    rw [Bool.eq_iff_iff]
    simp at h ⊢
    omega
theorem may18 (regs : Int) (hr : 0 ≤ regs ∧ regs ≤ 250) (nu : Nat) (cs : List S46) (nc : Nat) (protos a b : Int) : mayI regs nu cs nc protos ⟨18, a, b⟩ = insK 11 regs nu nc cs protos a b := by
  have e : mayI regs nu cs nc protos ⟨18, a, b⟩ = mayF 1 (rbF 49 21 regs nu cs nc protos b) 18 a b regs := rfl
  rw [e]
  have er : rbF 49 21 regs nu cs nc protos b = decide (0 ≤ b ∧ b < 21) := rfl
  rw [er]
  have ei : insK 11 regs nu nc cs protos a b = (decide (0 ≤ a ∧ a < regs) && (decide (0 ≤ b) && (decide (b ≤ 20) && decide (0 ≤ a ∧ a < wrap64 (regs - b))))) := rfl
  rw [ei]
  unfold mayF
  by_cases hb : 0 ≤ b ∧ b < 21
  · rw [if_neg (by rw [decide_eq_true hb]; simp)]
    simp only [reduceIte]
    rw [w_sm (x := 1 + b) (by omega), w_sm (x := regs - (1 + b)) (by omega), w_sm (x := regs - (1 + b) + 1) (by omega), w_sm (x := regs - b) (by omega), Bool.eq_iff_iff]
    simp
    omega
  · rw [if_pos (.inr (decide_eq_false hb))]
    symm
    rw [Bool.eq_false_iff]
    simp
    omega
theorem may19 (regs : Int) (hr : 0 ≤ regs ∧ regs ≤ 250) (nu : Nat) (cs : List S46) (nc : Nat) (protos a b : Int) : mayI regs nu cs nc protos ⟨19, a, b⟩ = insK 0 regs nu nc cs protos a b := by
  have e : mayI regs nu cs nc protos ⟨19, a, b⟩ = mayF 1 (rbF 33 0 regs nu cs nc protos b) 19 a b regs := rfl
  rw [e]
  have er : rbF 33 0 regs nu cs nc protos b = (b == 0) := rfl
  rw [er]
  have ei : insK 0 regs nu nc cs protos a b = (decide (0 ≤ a ∧ a < regs) && (b == 0)) := rfl
  rw [ei]
  unfold mayF
  skip
  simp only [show ¬ ((19 : Int) = 18) from by decide, if_false]
  rw [w_sm (x := regs - 1) (by omega), w_sm (x := regs - 1 + 1) (by omega)]
  split
  · rename_i h
    symm
    rw [Bool.eq_false_iff]
    simp at h ⊢
    omega
  · rename_i h
    rw [Bool.eq_iff_iff]
    simp at h ⊢
    omega
theorem may20 (regs : Int) (hr : 0 ≤ regs ∧ regs ≤ 250) (nu : Nat) (cs : List S46) (nc : Nat) (protos a b : Int) : mayI regs nu cs nc protos ⟨20, a, b⟩ = insK 13 regs nu nc cs protos a b := by
  have e : mayI regs nu cs nc protos ⟨20, a, b⟩ = mayF 0 (rbF 40 0 regs nu cs nc protos b) 20 a b regs := rfl
  rw [e]
  have er : rbF 40 0 regs nu cs nc protos b = decide (0 ≤ b ∧ b < (nc : Int)) := rfl
  rw [er]
  have ei : insK 13 regs nu nc cs protos a b = ((a == 0) && decide (0 ≤ b ∧ b < (nc : Int))) := rfl
  rw [ei]
  unfold mayF
  skip
  simp only [show ¬ ((20 : Int) = 18) from by decide, if_false]
  split
  · rename_i h
    symm
    rw [Bool.eq_false_iff]
    simp at h ⊢
    omega
  · rename_i h
    rw [Bool.eq_iff_iff]
    simp at h ⊢
    omega
theorem may21 (regs : Int) (hr : 0 ≤ regs ∧ regs ≤ 250) (nu : Nat) (cs : List S46) (nc : Nat) (protos a b : Int) : mayI regs nu cs nc protos ⟨21, a, b⟩ = insK 12 regs nu nc cs protos a b := by
  have e : mayI regs nu cs nc protos ⟨21, a, b⟩ = mayF 1 (rbF 40 0 regs nu cs nc protos b) 21 a b regs := rfl
  rw [e]
  have er : rbF 40 0 regs nu cs nc protos b = decide (0 ≤ b ∧ b < (nc : Int)) := rfl
  rw [er]
  have ei : insK 12 regs nu nc cs protos a b = (decide (0 ≤ a ∧ a < regs) && decide (0 ≤ b ∧ b < (nc : Int))) := rfl
  rw [ei]
  unfold mayF
  skip
  simp only [show ¬ ((21 : Int) = 18) from by decide, if_false]
  rw [w_sm (x := regs - 1) (by omega), w_sm (x := regs - 1 + 1) (by omega)]
  split
  · rename_i h
    symm
    rw [Bool.eq_false_iff]
    simp at h ⊢
    omega
  · rename_i h
    rw [Bool.eq_iff_iff]
    simp at h ⊢
    omega
theorem may22 (regs : Int) (hr : 0 ≤ regs ∧ regs ≤ 250) (nu : Nat) (cs : List S46) (nc : Nat) (protos a b : Int) : mayI regs nu cs nc protos ⟨22, a, b⟩ = insK 12 regs nu nc cs protos a b := by
  have e : mayI regs nu cs nc protos ⟨22, a, b⟩ = mayF 1 (rbF 40 0 regs nu cs nc protos b) 22 a b regs := rfl
  rw [e]
  have er : rbF 40 0 regs nu cs nc protos b = decide (0 ≤ b ∧ b < (nc : Int)) := rfl
  rw [er]
  have ei : insK 12 regs nu nc cs protos a b = (decide (0 ≤ a ∧ a < regs) && decide (0 ≤ b ∧ b < (nc : Int))) := rfl
  rw [ei]
  unfold mayF
  skip
  simp only [show ¬ ((22 : Int) = 18) from by decide, if_false]
  rw [w_sm (x := regs - 1) (by omega), w_sm (x := regs - 1 + 1) (by omega)]
  split
  · rename_i h
    symm
    rw [Bool.eq_false_iff]
    simp at h ⊢
    omega
  · rename_i h
    rw [Bool.eq_iff_iff]
    simp at h ⊢
    omega
theorem may23 (regs : Int) (hr : 0 ≤ regs ∧ regs ≤ 250) (nu : Nat) (cs : List S46) (nc : Nat) (protos a b : Int) : mayI regs nu cs nc protos ⟨23, a, b⟩ = insK 12 regs nu nc cs protos a b := by
  have e : mayI regs nu cs nc protos ⟨23, a, b⟩ = mayF 1 (rbF 40 0 regs nu cs nc protos b) 23 a b regs := rfl
  rw [e]
  have er : rbF 40 0 regs nu cs nc protos b = decide (0 ≤ b ∧ b < (nc : Int)) := rfl
  rw [er]
  have ei : insK 12 regs nu nc cs protos a b = (decide (0 ≤ a ∧ a < regs) && decide (0 ≤ b ∧ b < (nc : Int))) := rfl
  rw [ei]
  unfold mayF
  skip
  simp only [show ¬ ((23 : Int) = 18) from by decide, if_false]
  rw [w_sm (x := regs - 1) (by omega), w_sm (x := regs - 1 + 1) (by omega)]
  split
  · rename_i h
    symm
    rw [Bool.eq_false_iff]
    simp at h ⊢
    omega
  · rename_i h
    rw [Bool.eq_iff_iff]
    simp at h ⊢
    omega
theorem may24 (regs : Int) (hr : 0 ≤ regs ∧ regs ≤ 250) (nu : Nat) (cs : List S46) (nc : Nat) (protos a b : Int) : mayI regs nu cs nc protos ⟨24, a, b⟩ = insK 12 regs nu nc cs protos a b := by
  have e : mayI regs nu cs nc protos ⟨24, a, b⟩ = mayF 1 (rbF 40 0 regs nu cs nc protos b) 24 a b regs := rfl
  rw [e]
  have er : rbF 40 0 regs nu cs nc protos b = decide (0 ≤ b ∧ b < (nc : Int)) := rfl
  rw [er]
  have ei : insK 12 regs nu nc cs protos a b = (decide (0 ≤ a ∧ a < regs) && decide (0 ≤ b ∧ b < (nc : Int))) := rfl
  rw [ei]
  unfold mayF
  skip
  simp only [show ¬ ((24 : Int) = 18) from by decide, if_false]
  rw [w_sm (x := regs - 1) (by omega), w_sm (x := regs - 1 + 1) (by omega)]
  split
  · rename_i h
    symm
    rw [Bool.eq_false_iff]
    simp at h ⊢
    omega
  · rename_i h
    rw [Bool.eq_iff_iff]
    simp at h ⊢
    omega
theorem may25 (regs : Int) (hr : 0 ≤ regs ∧ regs ≤ 250) (nu : Nat) (cs : List S46) (nc : Nat) (protos a b : Int) : mayI regs nu cs nc protos ⟨25, a, b⟩ = insK 7 regs nu nc cs protos a b := by
  have e : mayI regs nu cs nc protos ⟨25, a, b⟩ = mayF 2 (rbF 49 10 regs nu cs nc protos b) 25 a b regs := rfl
  rw [e]
  have er : rbF 49 10 regs nu cs nc protos b = decide (0 ≤ b ∧ b < 10) := rfl
  rw [er]
  have ei : insK 7 regs nu nc cs protos a b = (decide (0 ≤ a ∧ a < wrap64 (regs - 1)) && (decide (0 ≤ b) && decide (b ≤ 9))) := rfl
  rw [ei]
  unfold mayF
  skip
  simp only [show ¬ ((25 : Int) = 18) from by decide, if_false]
  rw [w_sm (x := regs - 2) (by omega), w_sm (x := regs - 2 + 1) (by omega)]
  rw [w_sm (x := regs - 1) (by omega)]
  split
  · rename_i h
    symm
    rw [Bool.eq_false_iff]
    simp at h ⊢
    omega
  · rename_i h
    rw [Bool.eq_iff_iff]
    simp at h ⊢
    omega
theorem may26 (regs : Int) (hr : 0 ≤ regs ∧ regs ≤ 250) (nu : Nat) (cs : List S46) (nc : Nat) (protos a b : Int) : mayI regs nu cs nc protos ⟨26, a, b⟩ = insK 6 regs nu nc cs protos a b := by
  have e : mayI regs nu cs nc protos ⟨26, a, b⟩ = mayF 2 (rbF 33 0 regs nu cs nc protos b) 26 a b regs := rfl
  rw [e]
  have er : rbF 33 0 regs nu cs nc protos b = (b == 0) := rfl
  rw [er]
  have ei : insK 6 regs nu nc cs protos a b = (decide (0 ≤ a ∧ a < wrap64 (regs - 1)) && (b == 0)) := rfl
  rw [ei]
  unfold mayF
  skip
  simp only [show ¬ ((26 : Int) = 18) from by decide, if_false]
  rw [w_sm (x := regs - 2) (by omega), w_sm (x := regs - 2 + 1) (by omega)]
  rw [w_sm (x := regs - 1) (by omega)]
  split
  · rename_i h
    symm
    rw [Bool.eq_false_iff]
    simp at h ⊢
    omega
  · rename_i h
    rw [Bool.eq_iff_iff]
    simp at h ⊢
    omega
theorem may27 (regs : Int) (hr : 0 ≤ regs ∧ regs ≤ 250) (nu : Nat) (cs : List S46) (nc : Nat) (protos a b : Int) : mayI regs nu cs nc protos ⟨27, a, b⟩ = insK 6 regs nu nc cs protos a b := by
  have e : mayI regs nu cs nc protos ⟨27, a, b⟩ = mayF 2 (rbF 33 0 regs nu cs nc protos b) 27 a b regs := rfl
  rw [e]
  have er : rbF 33 0 regs nu cs nc protos b = (b == 0) := rfl
  rw [er]
  have ei : insK 6 regs nu nc cs protos a b = (decide (0 ≤ a ∧ a < wrap64 (regs - 1)) && (b == 0)) := rfl
  rw [ei]
  unfold mayF
  skip
  simp only [show ¬ ((27 : Int) = 18) from by decide, if_false]
  rw [w_sm (x := regs - 2) (by omega), w_sm (x := regs - 2 + 1) (by omega)]
  rw [w_sm (x := regs - 1) (by omega)]
  split
  · rename_i h
    symm
    rw [Bool.eq_false_iff]
    simp at h ⊢
    omega
  · rename_i h
    rw [Bool.eq_iff_iff]
    simp at h ⊢
    omega
theorem may28 (regs : Int) (hr : 0 ≤ regs ∧ regs ≤ 250) (nu : Nat) (cs : List S46) (nc : Nat) (protos a b : Int) : mayI regs nu cs nc protos ⟨28, a, b⟩ = insK 6 regs nu nc cs protos a b := by
  have e : mayI regs nu cs nc protos ⟨28, a, b⟩ = mayF 2 (rbF 33 0 regs nu cs nc protos b) 28 a b regs := rfl
  rw [e]
  have er : rbF 33 0 regs nu cs nc protos b = (b == 0) := rfl
  rw [er]
  have ei : insK 6 regs nu nc cs protos a b = (decide (0 ≤ a ∧ a < wrap64 (regs - 1)) && (b == 0)) := rfl
  rw [ei]
  unfold mayF
  skip
  simp only [show ¬ ((28 : Int) = 18) from by decide, if_false]
  rw [w_sm (x := regs - 2) (by omega), w_sm (x := regs - 2 + 1) (by omega)]
  rw [w_sm (x := regs - 1) (by omega)]
  split
  · rename_i h
    symm
    rw [Bool.eq_false_iff]
    simp at h ⊢
    omega
  · rename_i h
    rw [Bool.eq_iff_iff]
    simp at h ⊢
    omega
theorem may29 (regs : Int) (hr : 0 ≤ regs ∧ regs ≤ 250) (nu : Nat) (cs : List S46) (nc : Nat) (protos a b : Int) : mayI regs nu cs nc protos ⟨29, a, b⟩ = insK 6 regs nu nc cs protos a b := by
  have e : mayI regs nu cs nc protos ⟨29, a, b⟩ = mayF 2 (rbF 33 0 regs nu cs nc protos b) 29 a b regs := rfl
  rw [e]
  have er : rbF 33 0 regs nu cs nc protos b = (b == 0) := rfl
  rw [er]
  have ei : insK 6 regs nu nc cs protos a b = (decide (0 ≤ a ∧ a < wrap64 (regs - 1)) && (b == 0)) := rfl
  rw [ei]
  unfold mayF
  skip
  simp only [show ¬ ((29 : Int) = 18) from by decide, if_false]
  rw [w_sm (x := regs - 2) (by omega), w_sm (x := regs - 2 + 1) (by omega)]
  rw [w_sm (x := regs - 1) (by omega)]
  split
  · rename_i h
    symm
    rw [Bool.eq_false_iff]
    simp at h ⊢
    omega
  · rename_i h
    rw [Bool.eq_iff_iff]
    simp at h ⊢
    omega
theorem may30 (regs : Int) (hr : 0 ≤ regs ∧ regs ≤ 250) (nu : Nat) (cs : List S46) (nc : Nat) (protos a b : Int) : mayI regs nu cs nc protos ⟨30, a, b⟩ = insK 0 regs nu nc cs protos a b := by
  have e : mayI regs nu cs nc protos ⟨30, a, b⟩ = mayF 1 (rbF 33 0 regs nu cs nc protos b) 30 a b regs := rfl
  rw [e]
  have er : rbF 33 0 regs nu cs nc protos b = (b == 0) := rfl
  rw [er]
  have ei : insK 0 regs nu nc cs protos a b = (decide (0 ≤ a ∧ a < regs) && (b == 0)) := rfl
  rw [ei]
  unfold mayF
  skip
  simp only [show ¬ ((30 : Int) = 18) from by decide, if_false]
  rw [w_sm (x := regs - 1) (by omega), w_sm (x := regs - 1 + 1) (by omega)]
  split
  · rename_i h
    symm
    rw [Bool.eq_false_iff]
    simp at h ⊢
    omega
  · rename_i h
    rw [Bool.eq_iff_iff]
    simp at h ⊢
    omega
theorem may31 (regs : Int) (hr : 0 ≤ regs ∧ regs ≤ 250) (nu : Nat) (cs : List S46) (nc : Nat) (protos a b : Int) : mayI regs nu cs nc protos ⟨31, a, b⟩ = insK 0 regs nu nc cs protos a b := by
  have e : mayI regs nu cs nc protos ⟨31, a, b⟩ = mayF 1 (rbF 33 0 regs nu cs nc protos b) 31 a b regs := rfl
  rw [e]
  have er : rbF 33 0 regs nu cs nc protos b = (b == 0) := rfl
  rw [er]
  have ei : insK 0 regs nu nc cs protos a b = (decide (0 ≤ a ∧ a < regs) && (b == 0)) := rfl
  rw [ei]
  unfold mayF
  skip
  simp only [show ¬ ((31 : Int) = 18) from by decide, if_false]
  rw [w_sm (x := regs - 1) (by omega), w_sm (x := regs - 1 + 1) (by omega)]
  split
  · rename_i h
    symm
    rw [Bool.eq_false_iff]
    simp at h ⊢
    omega
  · rename_i h
    rw [Bool.eq_iff_iff]
    simp at h ⊢
    omega
theorem may32 (regs : Int) (hr : 0 ≤ regs ∧ regs ≤ 250) (nu : Nat) (cs : List S46) (nc : Nat) (protos a b : Int) : mayI regs nu cs nc protos ⟨32, a, b⟩ = insK 0 regs nu nc cs protos a b := by
  have e : mayI regs nu cs nc protos ⟨32, a, b⟩ = mayF 1 (rbF 33 0 regs nu cs nc protos b) 32 a b regs := rfl
  rw [e]
  have er : rbF 33 0 regs nu cs nc protos b = (b == 0) := rfl
  rw [er]
  have ei : insK 0 regs nu nc cs protos a b = (decide (0 ≤ a ∧ a < regs) && (b == 0)) := rfl
  rw [ei]
  unfold mayF
  skip
  simp only [show ¬ ((32 : Int) = 18) from by decide, if_false]
  rw [w_sm (x := regs - 1) (by omega), w_sm (x := regs - 1 + 1) (by omega)]
  split
  · rename_i h
    symm
    rw [Bool.eq_false_iff]
    simp at h ⊢
    omega
  · rename_i h
    rw [Bool.eq_iff_iff]
    simp at h ⊢
    omega
theorem may33 (regs : Int) (hr : 0 ≤ regs ∧ regs ≤ 250) (nu : Nat) (cs : List S46) (nc : Nat) (protos a b : Int) : mayI regs nu cs nc protos ⟨33, a, b⟩ = insK 8 regs nu nc cs protos a b := by
  have e : mayI regs nu cs nc protos ⟨33, a, b⟩ = mayF 2 (rbF 40 0 regs nu cs nc protos b) 33 a b regs := rfl
  rw [e]
  have er : rbF 40 0 regs nu cs nc protos b = decide (0 ≤ b ∧ b < (nc : Int)) := rfl
  rw [er]
  have ei : insK 8 regs nu nc cs protos a b = (decide (0 ≤ a ∧ a < wrap64 (regs - 1)) && decide (0 ≤ b ∧ b < (nc : Int))) := rfl
  rw [ei]
  unfold mayF
  skip
  simp only [show ¬ ((33 : Int) = 18) from by decide, if_false]
  rw [w_sm (x := regs - 2) (by omega), w_sm (x := regs - 2 + 1) (by omega)]
  rw [w_sm (x := regs - 1) (by omega)]
  split
  · rename_i h
    symm
    rw [Bool.eq_false_iff]
    simp at h ⊢
    omega
  · rename_i h
    rw [Bool.eq_iff_iff]
    simp at h ⊢
    omega
theorem may34 (regs : Int) (hr : 0 ≤ regs ∧ regs ≤ 250) (nu : Nat) (cs : List S46) (nc : Nat) (protos a b : Int) : mayI regs nu cs nc protos ⟨34, a, b⟩ = insK 8 regs nu nc cs protos a b := by
  have e : mayI regs nu cs nc protos ⟨34, a, b⟩ = mayF 2 (rbF 40 0 regs nu cs nc protos b) 34 a b regs := rfl
  rw [e]
  have er : rbF 40 0 regs nu cs nc protos b = decide (0 ≤ b ∧ b < (nc : Int)) := rfl
  rw [er]
  have ei : insK 8 regs nu nc cs protos a b = (decide (0 ≤ a ∧ a < wrap64 (regs - 1)) && decide (0 ≤ b ∧ b < (nc : Int))) := rfl
  rw [ei]
  unfold mayF
  skip
  simp only [show ¬ ((34 : Int) = 18) from by decide, if_false]
  rw [w_sm (x := regs - 2) (by omega), w_sm (x := regs - 2 + 1) (by omega)]
  rw [w_sm (x := regs - 1) (by omega)]
  split
  · rename_i h
    symm
    rw [Bool.eq_false_iff]
    simp at h ⊢
    omega
  · rename_i h
    rw [Bool.eq_iff_iff]
    simp at h ⊢
    omega
theorem may35 (regs : Int) (hr : 0 ≤ regs ∧ regs ≤ 250) (nu : Nat) (cs : List S46) (nc : Nat) (protos a b : Int) : mayI regs nu cs nc protos ⟨35, a, b⟩ = insK 12 regs nu nc cs protos a b := by
  have e : mayI regs nu cs nc protos ⟨35, a, b⟩ = mayF 1 (rbF 40 0 regs nu cs nc protos b) 35 a b regs := rfl
  rw [e]
  have er : rbF 40 0 regs nu cs nc protos b = decide (0 ≤ b ∧ b < (nc : Int)) := rfl
  rw [er]
  have ei : insK 12 regs nu nc cs protos a b = (decide (0 ≤ a ∧ a < regs) && decide (0 ≤ b ∧ b < (nc : Int))) := rfl
  rw [ei]
  unfold mayF
  skip
  simp only [show ¬ ((35 : Int) = 18) from by decide, if_false]
  rw [w_sm (x := regs - 1) (by omega), w_sm (x := regs - 1 + 1) (by omega)]
  split
  · rename_i h
    symm
    rw [Bool.eq_false_iff]
    simp at h ⊢
    omega
  · rename_i h
    rw [Bool.eq_iff_iff]
    simp at h ⊢
    omega
theorem may36 (regs : Int) (hr : 0 ≤ regs ∧ regs ≤ 250) (nu : Nat) (cs : List S46) (nc : Nat) (protos a b : Int) : mayI regs nu cs nc protos ⟨36, a, b⟩ = insK 14 regs nu nc cs protos a b := by
  have e : mayI regs nu cs nc protos ⟨36, a, b⟩ = mayF 0 (rbF 33 0 regs nu cs nc protos b) 36 a b regs := rfl
  rw [e]
  have er : rbF 33 0 regs nu cs nc protos b = (b == 0) := rfl
  rw [er]
  have ei : insK 14 regs nu nc cs protos a b = ((a == 0) && (b == 0)) := rfl
  rw [ei]
  unfold mayF
  skip
  simp only [show ¬ ((36 : Int) = 18) from by decide, if_false]
  split
  · rename_i h
    symm
    rw [Bool.eq_false_iff]
    simp at h ⊢
    omega
  · rename_i h
    rw [Bool.eq_iff_iff]
    simp at h ⊢
    omega
theorem loop_all {α β : Type} {xs : List α} {ok : α → Bool} {bad r : β} {g : Nat → Int → Option β} {rest : Nat → Option β}
    (hstep : ∀ (k i : Nat) (h : i < xs.length), ok xs[i] = true → g (k + 1) i = g k ((i + 1 : Nat) : Int))
    (hbad : ∀ (k i : Nat) (h : i < xs.length), ok xs[i] = false → g (k + 1) i = some bad)
    (hend : ∀ k, g (k + 1) (xs.length : Int) = rest k) (hr : Ev rest r) : ∀ (d i : Nat), i + d = xs.length → Ev (fun k => g k i) (if (xs.drop i).all ok = true then r else bad)
  | 0, i, hi => by
    obtain rfl : i = xs.length := by omega
    rw [List.drop_length, List.all_nil, if_pos rfl]
    exact Ev.step (f := rest) hend hr
  | d + 1, i, hi => by
    have hlt : i < xs.length := by omega
    rw [List.drop_eq_getElem_cons hlt, List.all_cons]
    cases ho : ok xs[i] with
    | true =>
      rw [Bool.true_and]
      exact Ev.step (f := fun k => g k ((i + 1 : Nat) : Int)) (fun k => hstep k i hlt ho) (loop_all hstep hbad hend hr d (i + 1) (by omega))
    | false =>
      rw [Bool.false_and, if_neg (by decide)]
      exact Ev.step (f := fun _ => some bad) (fun k => hbad k i hlt ho) (Ev.now bad)
theorem loop_from {α β : Type} {xs : List α} {ok : α → Bool} {bad r : β} {g : Nat → Int → Option β} {rest : Nat → Option β}
    (hstep : ∀ (k i : Nat) (h : i < xs.length), ok xs[i] = true → g (k + 1) i = g k ((i + 1 : Nat) : Int))
    (hbad : ∀ (k i : Nat) (h : i < xs.length), ok xs[i] = false → g (k + 1) i = some bad)
    (hend : ∀ k, g (k + 1) (xs.length : Int) = rest k) (hr : Ev rest r) : Ev (fun k => g k 0) (if xs.all ok = true then r else bad) := by
  have := loop_all hstep hbad hend hr xs.length 0 (by omega)
  rwa [List.drop_zero] at this
theorem Ev.eq {α : Type} {g : Nat → Option α} {r s : α} (h : Ev g r) (e : r = s) : Ev g s := e ▸ h
theorem rd48 (l : List S48) (i : Nat) (h : i < l.length) : rd_T48 l i = l[i] := by
  unfold rd_T48; rw [List.getD_eq_getElem?_getD]; simp [h]
theorem rd46 (l : List S46) (i : Nat) (h : i < l.length) : rd_T46 l i = l[i] := by
  unfold rd_T46; rw [List.getD_eq_getElem?_getD]; simp [h]
theorem rd41 (l : List S41) (i : Nat) (h : i < l.length) : rd_T41 l i = l[i] := by
  unfold rd_T41; rw [List.getD_eq_getElem?_getD]; simp [h]
theorem w_one {i : Nat} (h : i < 1000000) : wrap64 ((i : Int) + 1) = ((i + 1 : Nat) : Int) := by rw [w_sm (by omega)]; omega
def okU (u : S48) : Bool := decide (0 ≤ u.f1 ∧ u.f1 < (if u.f0 = true then 250 else 60))
def okC (c : S46) : Bool := (decide (c.f0 = 3) && decide (c.f2.toList = [])) || (decide (c.f0 = 5) && decide (c.f1 = 0))
def smC (c : S46) : Bool := decide ((c.f2.size : Int) ≤ 4096)
def okI (p1 : Int) (ups : List S48) (cs : List S46) (code : List S33) (protos : Int) (i : S33) : Bool := insK (grpOf i.f0) p1 ups.length code.length cs protos i.f1 i.f2
def protoS (p0 p1 : Int) (ups : List S48) (cs : List S46) (code : List S33) (first : Bool) (protos : Int) : Int :=
  if p0 < 0 ∨ p1 < 0 then 2 else if p0 > 20 ∨ p1 > 250 ∨ ups.length > 60 ∨ cs.length > 4096 ∨ code.length > 16384 then 3 else if p0 > p1 ∨ (first = true ∧ ups.length > 0) then 2
  else if ups.all okU = true then (if cs.all okC = true then (if cs.all smC = true then (if code.length = 0 then 2 else if code.all (okI p1 ups cs code protos) = true then 0 else 2) else 3) else 2) else 2
theorem okC_ite {γ : Type} (c : S46) (x y : γ) : (if c.f0 = 3 then (if c.f2.toList = ([] : List UInt8) then x else (if c.f0 = 5 then (if (c.f1 = 0) then x else y) else y)) else (if c.f0 = 5 then (if (c.f1 = 0) then x else y) else y)) = if okC c = true then x else y := by
  unfold okC
  by_cases h1 : c.f0 = 3
  · rw [if_pos h1]
    by_cases h2 : c.f2.toList = ([] : List UInt8)
    · rw [if_pos h2]; simp [h1, h2]
    · rw [if_neg h2, if_neg (by omega)]; simp [h1, h2]
  · rw [if_neg h1]
    by_cases h2 : c.f0 = 5
    · rw [if_pos h2]
      by_cases h3 : c.f1 = 0
      · rw [if_pos h3]; simp [h2, h3]
      · rw [if_neg h3]; simp [h2, h3]
    · rw [if_neg h2]; simp [h1, h2]
theorem may_ok (p1 : Int) (hr : 0 ≤ p1 ∧ p1 ≤ 250) (ups : List S48) (cs : List S46) (code : List S33) (protos : Int) (i : S33) : mayI p1 ups.length cs code.length protos i = okI p1 ups cs code protos i := by
  obtain ⟨op, a, b⟩ := i
  by_cases h : 0 ≤ op ∧ op < 37
  · unfold okI
    rcases (by omega : op = 0 ∨ op = 1 ∨ op = 2 ∨ op = 3 ∨ op = 4 ∨ op = 5 ∨ op = 6 ∨ op = 7 ∨ op = 8 ∨ op = 9 ∨ op = 10 ∨ op = 11 ∨ op = 12 ∨ op = 13 ∨ op = 14 ∨ op = 15 ∨ op = 16 ∨ op = 17 ∨ op = 18 ∨ op = 19 ∨ op = 20 ∨ op = 21 ∨ op = 22 ∨ op = 23 ∨ op = 24 ∨ op = 25 ∨ op = 26 ∨ op = 27 ∨ op = 28 ∨ op = 29 ∨ op = 30 ∨ op = 31 ∨ op = 32 ∨ op = 33 ∨ op = 34 ∨ op = 35 ∨ op = 36) with rfl | rfl | rfl | rfl | rfl | rfl | rfl | rfl | rfl | rfl | rfl | rfl | rfl | rfl | rfl | rfl | rfl | rfl | rfl | rfl | rfl | rfl | rfl | rfl | rfl | rfl | rfl | rfl | rfl | rfl | rfl | rfl | rfl | rfl | rfl | rfl | rfl
    · exact may0 p1 hr _ cs _ protos a b
    · exact may1 p1 hr _ cs _ protos a b
    · exact may2 p1 hr _ cs _ protos a b
    · exact may3 p1 hr _ cs _ protos a b
    · exact may4 p1 hr _ cs _ protos a b
    · exact may5 p1 hr _ cs _ protos a b
    · exact may6 p1 hr _ cs _ protos a b
    · exact may7 p1 hr _ cs _ protos a b
    · exact may8 p1 hr _ cs _ protos a b
    · exact may9 p1 hr _ cs _ protos a b
    · exact may10 p1 hr _ cs _ protos a b
    · exact may11 p1 hr _ cs _ protos a b
    · exact may12 p1 hr _ cs _ protos a b
    · exact may13 p1 hr _ cs _ protos a b
    · exact may14 p1 hr _ cs _ protos a b
    · exact may15 p1 hr _ cs _ protos a b
    · exact may16 p1 hr _ cs _ protos a b
    · exact may17 p1 hr _ cs _ protos a b
    · exact may18 p1 hr _ cs _ protos a b
    · exact may19 p1 hr _ cs _ protos a b
    · exact may20 p1 hr _ cs _ protos a b
    · exact may21 p1 hr _ cs _ protos a b
    · exact may22 p1 hr _ cs _ protos a b
    · exact may23 p1 hr _ cs _ protos a b
    · exact may24 p1 hr _ cs _ protos a b
    · exact may25 p1 hr _ cs _ protos a b
    · exact may26 p1 hr _ cs _ protos a b
    · exact may27 p1 hr _ cs _ protos a b
    · exact may28 p1 hr _ cs _ protos a b
    · exact may29 p1 hr _ cs _ protos a b
    · exact may30 p1 hr _ cs _ protos a b
    · exact may31 p1 hr _ cs _ protos a b
    · exact may32 p1 hr _ cs _ protos a b
    · exact may33 p1 hr _ cs _ protos a b
    · exact may34 p1 hr _ cs _ protos a b
    · exact may35 p1 hr _ cs _ protos a b
    · exact may36 p1 hr _ cs _ protos a b
  · have e : mayI p1 ups.length cs code.length protos ⟨op, a, b⟩ = false := by unfold mayI; rw [if_neg h]
    have hg : grpOf op = 99 := by
      unfold grpOf
      repeat rw [if_neg (by omega)]
    rw [e]
    unfold okI
    show false = insK (grpOf op) _ _ _ _ _ _ _
    rw [hg]; rfl
theorem notAny_eq (p1 : Int) (hr : 0 ≤ p1 ∧ p1 ≤ 250) (ups : List S48) (cs : List S46) (code : List S33) (protos : Int) (hl : code.length ≤ 16384) : notAny p1 ups.length cs protos code = some (!code.all (okI p1 ups cs code protos)) := by
  unfold notAny
  rw [if_pos (by omega)]
  congr 1
  have e : (fun i => !mayI p1 ups.length cs code.length protos i) = fun i => !okI p1 ups cs code protos i := funext fun i => by rw [may_ok p1 hr]
  rw [e, List.any_eq_not_all_not]
  simp
def endT (p1 : Int) (ups : List S48) (cs : List S46) (code : List S33) (protos : Int) : Int := if code.length = 0 then 2 else if code.all (okI p1 ups cs code protos) = true then 0 else 2
theorem c_l1 (x1 p0 p1 : Int) (hr : 0 ≤ p1 ∧ p1 ≤ 250) (ups : List S48) (cs : List S46) (code : List S33) (protos : Int) (hl : code.length ≤ 16384) (hc : cs.length ≤ 4096) : ∀ (d i : Nat) (b : Bool), i + d = cs.length →
    Ev (fun k => code_place_check.l1 k x1 b cs cs.length i p0 p1 ups cs code protos) (if (cs.drop i).all okC = true then (if (b || !(cs.drop i).all smC) = true then 3 else endT p1 ups cs code protos) else 2)
  | 0, i, b, hi => by
    obtain rfl : i = cs.length := by omega
    rw [List.drop_length, List.all_nil, List.all_nil, if_pos rfl]
    refine Ev.step (f := fun k => if b = true then some 3 else if (code.length : Int) = 0 then some 2 else (notAny p1 ups.length cs protos code).bind fun t => if t = true then some 2 else some 0) (fun k => by
      rw [code_place_check.l1, if_neg (by omega)]) ?_
    cases b with
    | true => exact Ev.congr (fun k => by rw [if_pos rfl]) (Ev.now 3)
    | false =>
      rw [if_neg (by decide)]
      unfold endT
      by_cases h : code.length = 0
      · rw [if_pos h]; exact Ev.congr (fun k => by rw [if_pos (by omega)]) (Ev.now 2)
      · rw [if_neg h, notAny_eq p1 hr _ _ _ _ hl]
        cases code.all (okI p1 ups cs code protos) with
        | true => rw [if_pos rfl]; exact Ev.congr (fun k => by rw [if_neg (by omega), Option.bind_some, if_neg (by decide)]) (Ev.now 0)
        | false => exact Ev.congr (fun k => by rw [if_neg (by omega), Option.bind_some, if_pos (by decide)]) (Ev.now 2)
  | d + 1, i, b, hi => by
    have hlt : i < cs.length := by omega
    rw [List.drop_eq_getElem_cons hlt, List.all_cons, List.all_cons]
    have e0 : ∀ k, code_place_check.l1 (k + 1) x1 b cs cs.length i p0 p1 ups cs code protos = if okC cs[i] = true then code_place_check.l1 k x1 (b || !smC cs[i]) cs cs.length ((i + 1 : Nat) : Int) p0 p1 ups cs code protos else some 2 := fun k => by
      rw [code_place_check.l1, if_pos (by omega), if_pos (by omega), if_pos (by omega), rd46 _ _ hlt, okC_ite, okC_ite, w_one (by omega)]
      cases b with
      | true => rw [if_pos rfl]; try rfl
      | false =>
        rw [if_neg (by decide)]
        have : (decide ((cs[i].f2.size : Int) > 4096)) = (false || !smC cs[i]) := by
          unfold smC
          rw [Bool.false_or, Bool.eq_iff_iff]; simp
        rw [this]
    cases ho : okC cs[i] with
    | true =>
      rw [Bool.true_and]
      refine Ev.step (f := fun k => code_place_check.l1 k x1 (b || !smC cs[i]) cs cs.length ((i + 1 : Nat) : Int) p0 p1 ups cs code protos) (fun k => by rw [e0, ho, if_pos rfl]) ?_
      refine Ev.eq (c_l1 x1 p0 p1 hr ups cs code protos hl hc d (i + 1) _ (by omega)) ?_
      have : (b || !smC cs[i] || !(cs.drop (i + 1)).all smC) = (b || !(smC cs[i] && (cs.drop (i + 1)).all smC)) := by cases b <;> cases smC cs[i] <;> rfl
      rw [this]
    | false =>
      rw [Bool.false_and, if_neg (by decide)]
      exact Ev.step (f := fun _ => some 2) (fun k => by rw [e0, ho, if_neg (by decide)]) (Ev.now 2)
theorem c_l0 (x1 p0 p1 : Int) (hr : 0 ≤ p1 ∧ p1 ≤ 250) (ups : List S48) (cs : List S46) (code : List S33) (protos : Int) (hl : code.length ≤ 16384) (hc : cs.length ≤ 4096) (hu : ups.length ≤ 60) :
    Ev (fun k => code_place_check.l0 k x1 ups ups.length 0 p0 p1 ups cs code protos) (if ups.all okU = true then (if cs.all okC = true then (if cs.all smC = true then endT p1 ups cs code protos else 3) else 2) else 2) :=
  loop_from (xs := ups) (g := fun k i => code_place_check.l0 k x1 ups ups.length i p0 p1 ups cs code protos) (rest := fun k => code_place_check.l1 k x1 false cs cs.length 0 p0 p1 ups cs code protos)
    (fun k i h ho => by
      show code_place_check.l0 (k + 1) x1 ups ups.length i p0 p1 ups cs code protos = _
      rw [code_place_check.l0, if_pos (by omega), if_pos (by omega), if_pos (by omega), rd48 _ _ h]
      unfold okU at ho
      cases hf : ups[i].f0 with
      | true => rw [hf, if_pos rfl] at ho; rw [if_pos rfl, among_eq, ho, Option.bind_some, if_pos rfl, if_pos rfl, w_one (by omega)]
      | false => rw [hf, if_neg (by decide)] at ho; rw [if_neg (by decide), if_neg (by decide), among_eq, ho, Option.bind_some, if_pos rfl, w_one (by omega)])
    (fun k i h ho => by
      show code_place_check.l0 (k + 1) x1 ups ups.length i p0 p1 ups cs code protos = _
      rw [code_place_check.l0, if_pos (by omega), if_pos (by omega), if_pos (by omega), rd48 _ _ h]
      unfold okU at ho
      cases hf : ups[i].f0 with
      | true => rw [hf, if_pos rfl] at ho; rw [if_pos rfl, among_eq, ho]; rfl
      | false => rw [hf, if_neg (by decide)] at ho; rw [if_neg (by decide), if_neg (by decide), among_eq, ho]; rfl)
    (fun k => by show code_place_check.l0 (k + 1) x1 ups ups.length ups.length p0 p1 ups cs code protos = _; rw [code_place_check.l0, if_neg (by omega)])
    (by
      have := c_l1 x1 p0 p1 hr ups cs code protos hl hc cs.length 0 false (by omega)
      rw [List.drop_zero] at this
      refine Ev.eq this ?_
      cases cs.all smC <;> rfl)
theorem c_proto (x1 p0 p1 : Int) (ups : List S48) (cs : List S46) (code : List S33) (first : Bool) (protos : Int) : Ev (fun k => code_place_check.f k p0 p1 ups cs code protos x1 first) (protoS p0 p1 ups cs code first protos) := by
  have e : ∀ k, code_place_check.f k p0 p1 ups cs code protos x1 first = code_place_check.j0 k x1 first (decide (p0 < 0 ∨ p1 < 0)) p0 p1 ups cs code protos := fun k => by
    unfold code_place_check.f
    by_cases h : p0 < 0
    · rw [if_pos h, decide_eq_true (.inl h)]
    · rw [if_neg h]; congr 1; rw [decide_eq_decide]; omega
  refine Ev.congr e ?_
  unfold protoS
  by_cases h0 : p0 < 0 ∨ p1 < 0
  · rw [if_pos h0, decide_eq_true h0]
    exact Ev.step (f := fun _ => some 2) (fun k => by rw [code_place_check.j0, if_pos rfl]) (Ev.now 2)
  rw [if_neg h0, decide_eq_false h0]
  refine Ev.step (f := fun k => code_place_check.j1 k x1 first (decide (p0 > 20 ∨ p1 > 250 ∨ ups.length > 60 ∨ cs.length > 4096 ∨ code.length > 16384)) p0 p1 ups cs code protos) (fun k => by
    rw [code_place_check.j0, if_neg (by decide)]
    by_cases h1 : p0 > 20
    · rw [if_pos h1, decide_eq_true (.inl h1)]
    rw [if_neg h1]
    by_cases h2 : p1 > 250
    · rw [if_pos h2, decide_eq_true (.inr (.inl h2))]
    rw [if_neg h2]
    by_cases h3 : (ups.length : Int) > 60
    · rw [if_pos h3, decide_eq_true (.inr (.inr (.inl (by omega))))]
    rw [if_neg h3]
    by_cases h4 : (cs.length : Int) > 4096
    · rw [if_pos h4, decide_eq_true (.inr (.inr (.inr (.inl (by omega)))))]
    rw [if_neg h4]; congr 1; rw [decide_eq_decide]; omega) ?_
  by_cases h1 : p0 > 20 ∨ p1 > 250 ∨ ups.length > 60 ∨ cs.length > 4096 ∨ code.length > 16384
  · rw [if_pos h1, decide_eq_true h1]
    exact Ev.step (f := fun _ => some 3) (fun k => by rw [code_place_check.j1, if_pos rfl]) (Ev.now 3)
  rw [if_neg h1, decide_eq_false h1]
  by_cases h2 : p0 > p1 ∨ (first = true ∧ ups.length > 0)
  · rw [if_pos h2]
    refine Ev.step (f := fun _ => some 2) (fun k => ?_) (Ev.now 2)
    rw [code_place_check.j1, if_neg (by decide)]
    by_cases h3 : p0 > p1
    · rw [if_pos h3]
    · rw [if_neg h3]
      have h4 := h2.resolve_left h3
      rw [if_pos h4.1, if_pos (by omega)]
  rw [if_neg h2]
  refine Ev.step (f := fun k => code_place_check.j2 k x1 p0 p1 ups cs code protos) (fun k => by
    rw [code_place_check.j1, if_neg (by decide), if_neg (fun h => h2 (.inl h))]
    by_cases hf : first = true
    · rw [if_pos hf, if_neg (fun h => h2 (.inr ⟨hf, by omega⟩))]
    · rw [if_neg hf]) ?_
  exact Ev.step (f := fun k => code_place_check.l0 k x1 ups ups.length 0 p0 p1 ups cs code protos) (fun k => by rw [code_place_check.j2]) (c_l0 x1 p0 p1 (by omega) ups cs code protos (by omega) (by omega) (by omega))
def checkS (l : List S41) : Int := if l.length = 0 then 2 else if l.length > 256 then 3 else
  let rec go : List S41 → Nat → Int
    | [], _ => 0
    | x :: r, i => let e := protoS x.f0 x.f1 x.f2 x.f3 x.f4 (i == 0) l.length; if e = 0 then go r (i + 1) else e
  go l 0
theorem c_check0 (l : List S41) (x1 : Int) (hl : l.length ≤ 256) : ∀ (d i : Nat), i + d = l.length → Ev (fun k => code_Check.l0 k x1 l l.length i l) (checkS.go l (l.drop i) i)
  | 0, i, hi => by
    obtain rfl : i = l.length := by omega
    rw [List.drop_length]
    exact Ev.step (f := fun _ => some 0) (fun k => by rw [code_Check.l0, if_neg (by omega)]) (Ev.now 0)
  | d + 1, i, hi => by
    have hlt : i < l.length := by omega
    rw [List.drop_eq_getElem_cons hlt]
    have hb : (((i : Nat) : Int) == 0) = (i == 0) := by rw [Bool.eq_iff_iff]; simp
    refine Ev.step (f := fun k => (code_place_check.f k l[i].f0 l[i].f1 l[i].f2 l[i].f3 l[i].f4 l.length x1 (i == 0)).bind fun t => if t = 0 then code_Check.l0 k x1 l l.length ((i + 1 : Nat) : Int) l else some t) (fun k => by
      rw [code_Check.l0, if_pos (by omega), if_pos (by omega), if_pos (by omega), rd41 _ _ hlt, w_one (by omega), hb]) ?_
    refine Ev.bind (f := fun k t => if t = 0 then code_Check.l0 k x1 l l.length ((i + 1 : Nat) : Int) l else some t) (c_proto _ _ _ _ _ _ _ _) ?_
    unfold checkS.go
    by_cases he : protoS l[i].f0 l[i].f1 l[i].f2 l[i].f3 l[i].f4 (i == 0) l.length = 0
    · simp only [he, if_true]
      exact c_check0 l x1 hl d (i + 1) (by omega)
    · simp only [he, if_false]
      exact Ev.now _
theorem c_check (l : List S41) : Ev (fun k => code_Check.f k l) (checkS l) := by
  unfold checkS
  by_cases h0 : l.length = 0
  · rw [if_pos h0]; exact Ev.congr (f := fun _ => some 2) (fun k => by unfold code_Check.f; rw [if_pos (by omega)]) (Ev.now 2)
  rw [if_neg h0]
  by_cases h1 : l.length > 256
  · rw [if_pos h1]; exact Ev.congr (f := fun _ => some 3) (fun k => by unfold code_Check.f; rw [if_neg (by omega), if_pos (by omega)]) (Ev.now 3)
  rw [if_neg h1]
  exact Ev.congr (f := fun k => code_Check.l0 k 0 l l.length 0 l) (fun k => by unfold code_Check.f; rw [if_neg (by omega), if_neg (by omega)]) (c_check0 l 0 (by omega) l.length 0 (by omega))
end Go.Proofs.Ytpdcedmnkkiekaa.Z
end
