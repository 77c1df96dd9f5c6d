import Derived.Test.YtadhkfklkbdabaaRProg
import Derived.Below
import Derived.WalkKit
import Derived.KernelRfl
import Derived.Deep.QuietTactic
import Derived.BigQuiet
set_option linter.unusedVariables false
set_option linter.unusedSimpArgs false
section
namespace Go.Proofs.YtadhkfklkbdabaaR.H
open Go.RowKit
def withinB (lo hi n : Int) : Bool := if n < lo then false else decide (n ≤ hi)
set_option maxHeartbeats 400000 in
theorem within_any (lo hi k n : Int) (a : Nat) (w : World) (r : Bool) (hr : withinB lo hi n = r) (_hk : w.cell? ⟨a, 0, none⟩ = some (.int .i64 k)) (hn : w.cell? ⟨a, 1, none⟩ = some (.int .i64 n)) : Calls Try.prog 50 #[.int .i64 lo, .int .i64 hi, .pointer (some ⟨a, 0, none⟩)] w fun e w' => e = .returned (.bool r) ∧ w = w' := by
 subst hr
 by_cases h1 : n < lo
 ·have hw : withinB lo hi n = false := by simp [withinB, h1]
  rw [hw]; clear hw
  go_enter Try.func50, Try.ntmps50
  go_wp2
  go_ret
  exact ⟨rfl, rfl⟩
 ·have hw : withinB lo hi n = decide (n ≤ hi) := by simp [withinB, h1]
  rw [hw]; clear hw
  have h1' : lo ≤ n := by omega
  go_enter Try.func50, Try.ntmps50
  go_wp2
  go_ret
  exact ⟨rfl, rfl⟩
def mayB (k n : Int) : Bool := if k = 0 then n == 0 else if k = 1 then n == 0 else if k = 2 then withinB 0 1 n else if k = 3 then true else if k = 4 then withinB 0 12 n else decide (5 ≤ k) && (decide (k ≤ 9) && withinB 1 2147483647 n)
set_option maxHeartbeats 400000 in
theorem may_any (k n : Int) (w : World) (r : Bool) (hr : mayB k n = r) : Calls Try.prog 31 #[.agg #[.int .i64 k, .int .i64 n]] w fun e w' => e = .returned (.bool r) ∧ Below w.heap.size w w' := by
 subst hr
 by_cases h0 : k = 0
 ·subst h0
  have hm : mayB 0 n = withinB 0 0 n := by unfold mayB withinB; rw [Bool.eq_iff_iff]; simp; omega
  rw [hm]; clear hm
  go_enter Try.func31, Try.ntmps31
  go_wp2_with ((with_reducible refine (within_any 0 0 0 n _ _ _ rfl (by go_simp) (by go_simp)).mono ?_); rintro e w' ⟨rfl, rfl⟩)
  go_ret
  exact ⟨rfl, (Below.refl _ _).alloc (Nat.le_refl _) _⟩
 by_cases h1 : k = 1
 ·subst h1
  have hm : mayB 1 n = withinB 0 0 n := by unfold mayB withinB; rw [Bool.eq_iff_iff]; simp; omega
  rw [hm]; clear hm
  go_enter Try.func31, Try.ntmps31
  go_wp2_with ((with_reducible refine (within_any 0 0 1 n _ _ _ rfl (by go_simp) (by go_simp)).mono ?_); rintro e w' ⟨rfl, rfl⟩)
  go_ret
  exact ⟨rfl, (Below.refl _ _).alloc (Nat.le_refl _) _⟩
 by_cases h2 : k = 2
 ·subst h2
  have hm : mayB 2 n = withinB 0 1 n := by unfold mayB; simp
  rw [hm]; clear hm
  go_enter Try.func31, Try.ntmps31
  go_wp2_with ((with_reducible refine (within_any 0 1 2 n _ _ _ rfl (by go_simp) (by go_simp)).mono ?_); rintro e w' ⟨rfl, rfl⟩)
  go_ret
  exact ⟨rfl, (Below.refl _ _).alloc (Nat.le_refl _) _⟩
 by_cases h3 : k = 3
 ·subst h3
  have hm : mayB 3 n = true := by unfold mayB; simp
  rw [hm]; clear hm
  go_enter Try.func31, Try.ntmps31
  go_wp2_with fail
  go_ret
  exact ⟨rfl, (Below.refl _ _).alloc (Nat.le_refl _) _⟩
 by_cases h4 : k = 4
 ·subst h4
  have hm : mayB 4 n = withinB 0 12 n := by unfold mayB; simp
  rw [hm]; clear hm
  go_enter Try.func31, Try.ntmps31
  go_wp2_with ((with_reducible refine (within_any 0 12 4 n _ _ _ rfl (by go_simp) (by go_simp)).mono ?_); rintro e w' ⟨rfl, rfl⟩)
  go_ret
  exact ⟨rfl, (Below.refl _ _).alloc (Nat.le_refl _) _⟩
 have hm : mayB k n = (decide (5 ≤ k) && (decide (k ≤ 9) && withinB 1 2147483647 n)) := by unfold mayB; simp [h0, h1, h2, h3, h4]
 rw [hm]; clear hm
 by_cases h5 : 5 ≤ k ∧ k ≤ 9
 ·obtain ⟨h5, h6⟩ := h5
  have hb : (decide (5 ≤ k) && (decide (k ≤ 9) && withinB 1 2147483647 n)) = withinB 1 2147483647 n := by simp [h5, h6]
  rw [hb]; clear hb
  go_enter Try.func31, Try.ntmps31
  go_wp2_with ((with_reducible refine (within_any 1 2147483647 k n _ _ _ rfl (by go_simp) (by go_simp)).mono ?_); rintro e w' ⟨rfl, rfl⟩)
  go_ret
  exact ⟨rfl, (Below.refl _ _).alloc (Nat.le_refl _) _⟩
 ·have hb : (decide (5 ≤ k) && (decide (k ≤ 9) && withinB 1 2147483647 n)) = false := by
   by_cases h : 5 ≤ k
   ·have : ¬ k ≤ 9 := fun h' => h5 ⟨h, h'⟩
    simp [this]
   ·simp [h]
  rw [hb]; clear hb
  by_cases h6 : 5 ≤ k
  ·have h7 : 9 < k := by omega
   go_enter Try.func31, Try.ntmps31
   go_wp2_with fail
   go_ret
   exact ⟨rfl, (Below.refl _ _).alloc (Nat.le_refl _) _⟩
  ·have h7 : k < 5 := by omega
   go_enter Try.func31, Try.ntmps31
   go_wp2_with fail
   go_ret
   exact ⟨rfl, (Below.refl _ _).alloc (Nat.le_refl _) _⟩
end Go.Proofs.YtadhkfklkbdabaaR.H
end
