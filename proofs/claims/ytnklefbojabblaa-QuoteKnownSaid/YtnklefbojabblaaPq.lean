import Derived.Test.YtnklefbojabblaaPz
import Derived.Test.YtnklefbojabblaaGxF21
namespace Go.Proofs.Ytnklefbojabblaa.Z
open Go.RowKit Go.Proofs.Ytnklefbojabblaa.G Go.Proofs.Ytnklefbojabblaa.H Go.Proofs.YtnklefbojabblaaW.PrintWords Go.Proofs.YtnklefbojabblaaW.PrintLast Go.Proofs.YtnklefbojabblaaW.PrintMore
set_option linter.unusedVariables false
set_option linter.unusedSimpArgs false
/-! the document's answers -/
theorem rvalue (k : Nat) (a : Int) (h0 : 0 ≤ a) (h1 : a ≤ 255) : tallowref03_value.f (k + 1) a = some (if digitD a < 0 then 16 else digitD a) := by
  unfold tallowref03_value.f
  by_cases a1 : a ≥ 48
  · rw [if_pos a1]
    by_cases a2 : a ≤ 57
    · have hd : digitD a = a - 48 := if_pos ⟨a1, a2⟩
      rw [decide_eq_true a2, hd, if_neg (show ¬ a - 48 < 0 by omega)]
      simp only [tallowref03_value.j0]
      rw [if_pos trivial]
      congr 1; omega
    · rw [decide_eq_false a2]
      simp only [tallowref03_value.j0]
      rw [if_neg (by decide)]
      by_cases a3 : a ≥ 97
      · rw [if_pos a3]
        by_cases a4 : a ≤ 102
        · have hd : digitD a = a - 97 + 10 := (if_neg (by omega)).trans (if_pos ⟨a3, a4⟩)
          rw [if_pos a4, hd, if_neg (show ¬ a - 97 + 10 < 0 by omega)]; congr 1; omega
        · have hd : digitD a = -1 := (if_neg (by omega)).trans (if_neg (by omega))
          rw [if_neg a4, hd, if_pos (by decide)]
      · have hd : digitD a = -1 := (if_neg (by omega)).trans (if_neg (by omega))
        rw [if_neg a3, hd, if_pos (by decide)]
  · have hd : digitD a = -1 := (if_neg (by omega)).trans (if_neg (by omega))
    rw [if_neg a1]
    simp only [tallowref03_value.j0]
    rw [if_neg (by decide), if_neg (by omega), hd, if_pos (by decide)]
def oneOf (u : ByteArray) : Int × Int := match ustep u with | none => (0, 0) | some p => p
theorem rone (k : Nat) (u : ByteArray) (h0 : u.size ≠ 0) : tallowref03_One.f (k + 4) u = some (oneOf u) := by
  have r0 := bt_range u 0
  have r1 := bt_range u 1
  have r2 := bt_range u 2
  have r3 := bt_range u 3
  unfold tallowref03_One.f
  rw [if_neg (by omega), if_pos (by omega)]
  have hj0 : ∀ b, b = true → tallowref03_One.j0 (k + 4) u b = some (0, 0) := fun b hb => by subst hb; simp only [tallowref03_One.j0]; rw [if_pos trivial]
  by_cases c1 : bt u 0 < 32
  · rw [if_pos c1, hj0 _ rfl]; unfold oneOf ustep; rw [if_pos (.inl c1)]
  rw [if_neg c1]
  by_cases c2 : bt u 0 > 126
  · rw [if_pos c2, hj0 _ rfl]; unfold oneOf ustep; rw [if_pos (.inr (.inl c2))]
  rw [if_neg c2]
  by_cases c3 : bt u 0 = 34
  · rw [hj0 _ (beq_iff_eq.mpr c3)]; unfold oneOf ustep; rw [if_pos (.inr (.inr (.inl c3)))]
  rw [beq_eq_false_iff_ne.mpr c3]
  simp only [tallowref03_One.j0]
  rw [if_neg (by decide), if_pos (by omega)]
  by_cases c4 : bt u 0 = 92
  · rw [if_pos c4]
    by_cases c5 : u.size < 2
    · rw [if_pos (by omega)]; unfold oneOf ustep; rw [if_pos (.inr (.inr (.inr ⟨c4, c5⟩)))]
    rw [if_neg (by omega), if_pos (by omega)]
    have hU : oneOf u = match (if bt u 1 = 120 then (if u.size < 4 ∨ digitD (bt u 2) < 0 ∨ digitD (bt u 3) < 0 then none else some (digitD (bt u 2) * 16 + digitD (bt u 3), 4)) else (longOf (bt u 1)).map fun c => (c, 2)) with | none => ((0, 0) : Int × Int) | some p => p := by
      unfold oneOf ustep; rw [if_neg (by omega), if_pos c4]
    by_cases d1 : bt u 1 = 110
    · rw [if_pos d1, hU, d1]; rfl
    rw [if_neg d1]
    by_cases d2 : bt u 1 = 116
    · rw [if_pos d2, hU, d2]; rfl
    rw [if_neg d2]
    have hj1 : tallowref03_One.j1 (k + 3) u (bt u 1) true = some (bt u 1, 2) := by simp only [tallowref03_One.j1]; rw [if_pos trivial, if_pos (by omega)]
    by_cases d3 : bt u 1 = 92
    · rw [if_pos d3, beq_iff_eq.mpr d3, hj1, hU, d3]; rfl
    rw [if_neg d3]
    by_cases d4 : bt u 1 = 34
    · rw [beq_iff_eq.mpr d4, hj1, hU, d4]; rfl
    rw [beq_eq_false_iff_ne.mpr d4]
    simp only [tallowref03_One.j1]
    rw [if_neg (by decide)]
    by_cases d5 : bt u 1 = 120
    · rw [if_pos d5, hU, if_pos d5]
      by_cases d6 : u.size < 4
      · rw [if_neg (by omega), if_pos (.inl d6)]; simp only [tallowref03_One.j2]; rw [if_neg (by decide)]
      rw [if_pos (by omega), if_pos (by omega), rvalue _ _ r2.1 r2.2]
      have l2 := digitD_lt (bt u 2)
      have l3 := digitD_lt (bt u 3)
      simp only [Option.bind_some]
      by_cases e2 : digitD (bt u 2) < 0
      · rw [if_pos e2, if_neg (by decide), if_pos (.inr (.inl e2))]; simp only [tallowref03_One.j2]; rw [if_neg (by decide)]
      rw [if_neg e2, if_pos l2, if_pos (by omega), rvalue _ _ r3.1 r3.2]
      simp only [Option.bind_some]
      by_cases e3 : digitD (bt u 3) < 0
      · rw [if_pos e3, if_pos (.inr (.inr e3))]; simp only [tallowref03_One.j2]; rw [if_neg (by decide)]
      rw [if_neg e3, decide_eq_true l3, if_neg (by omega)]
      simp only [tallowref03_One.j2]
      rw [if_pos trivial, if_pos (by omega), rvalue _ _ r2.1 r2.2]
      simp only [Option.bind_some]
      rw [if_pos (by omega), rvalue _ _ r3.1 r3.2]
      simp only [Option.bind_some]
      rw [if_neg e2, if_neg e3]
      simp only [Option.some.injEq, Prod.mk.injEq, and_true]
      omega
    · rw [if_neg d5, hU, if_neg d5]
      have : longOf (bt u 1) = none := by unfold longOf; rw [if_neg d4, if_neg d3, if_neg d2, if_neg d1]
      rw [this]; rfl
  · rw [if_neg c4]; unfold oneOf ustep; rw [if_neg (by omega), if_neg c4]
end Go.Proofs.Ytnklefbojabblaa.Z
