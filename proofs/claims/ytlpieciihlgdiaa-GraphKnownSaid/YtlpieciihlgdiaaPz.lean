import Derived.Test.YtlpieciihlgdiaaGxF3
import Derived.Lib.Hide
import Derived.Maps.OwnOps
import Derived.Maps.OwnSet
import Derived.Maps.Views
namespace Go.Proofs.Ytlpieciihlgdiaa.G
open Go.RowKit Go.Proofs.YtlpieciihlgdiaaW.PrintWords Go.Proofs.YtlpieciihlgdiaaW.PrintLast Go.Proofs.YtlpieciihlgdiaaW.PrintMore
set_option linter.unusedVariables false
set_option linter.unusedSimpArgs false
theorem rmay (k : Nat) (a b : Int) : tallowref02_May.f (k + 1) a b = some (mayB a b) := by
  unfold tallowref02_May.f mayB
  by_cases h0 : a = 0
  · subst h0; simp [tallowref02_May.j0]
  by_cases h1 : a = 1
  · subst h1; simp [tallowref02_May.j0]
  have e1 : (a == 1) = false := by simpa using h1
  rw [if_neg h0, if_neg h0, if_neg h1, e1]
  rw [tallowref02_May.j0, withinB, withinB, withinB]
  rw [if_neg (by decide)]
  by_cases h2 : a = 2
  · rw [if_pos h2, if_pos h2]
    by_cases hb : b = 0
    · rw [if_pos hb]; simp [hb]
    · rw [if_neg hb, Option.some.injEq, Bool.eq_iff_iff]; simp; omega
  rw [if_neg h2, if_neg h2]
  by_cases h3 : a = 3
  · rw [if_pos h3, if_pos h3]
  rw [if_neg h3, if_neg h3]
  by_cases h4 : a = 4
  · rw [if_pos h4, if_pos h4]
    by_cases hb : b ≥ 0
    · rw [if_pos hb, if_neg (by omega)]
    · rw [if_neg hb, if_pos (by omega)]
  rw [if_neg h4, if_neg h4]
  by_cases h5 : a ≥ 5
  · have d5 : decide (5 ≤ a) = true := by simpa using h5
    rw [if_pos h5, d5]
    by_cases h9 : a ≤ 9
    · have d9 : decide (a ≤ 9) = true := by simpa using h9
      rw [if_pos h9, d9]
      by_cases hb : b ≥ 1
      · rw [if_pos hb, if_neg (by omega)]; simp
      · rw [if_neg hb, if_pos (by omega)]; simp
    · have d9 : decide (a ≤ 9) = false := by simpa using h9
      rw [if_neg h9, d9]; simp
  · have d5 : decide (5 ≤ a) = false := by simpa using h5
    rw [if_neg h5, d5]; simp
theorem rref (k : Nat) (a b : Int) : tallowref02_Ref.f (k + 1) a b = some (refB a b) := by
  unfold tallowref02_Ref.f refB
  rw [rmay, Option.bind_some]
  cases mayB a b <;> simp
theorem rd36 (l : List S36) (i : Nat) (h : i < l.length) : rd_T36 l i = l[i] := by
  unfold rd_T36; rw [List.getD_eq_getElem?_getD]; simp [h]
/-- the document's loop over an object's slots -/
theorem obj_l0 (l0 : List S36) (x0 x1 : Int) (l : List S40) (t : ByteArray) (x4 : Int) (hl : l.length ≤ 8796093022208) (d : Nat) : ∀ (k i : Nat), l.length - i = d → i ≤ l.length → 2 * d + 2 ≤ k →
    tallowref10_obj.l0 k i l0 x0 x1 l t x4 = some (slotsB l0 (l.drop i)) := by
  induction d with
  | zero =>
    intro k i hd hi hk
    obtain ⟨k, rfl⟩ : ∃ m, k = m + 1 := ⟨k - 1, by omega⟩
    have hii : i = l.length := by omega
    subst hii
    rw [tallowref10_obj.l0, if_neg (by omega)]
    simp [slotsB]
  | succ d ih =>
    intro k i hd hi hk
    obtain ⟨k, rfl⟩ : ∃ m, k = m + 1 + 1 + 1 := ⟨k - 3, by omega⟩
    have hlt : i < l.length := by omega
    have hdr : l.drop i = l[i] :: l.drop (i + 1) := List.drop_eq_getElem_cons hlt
    have hn := ih (k + 1) (i + 1) (by omega) (by omega) (by omega)
    have hc : ((i : Int) + 1) = ((i + 1 : Nat) : Int) := by omega
    have hsl : slotsB l0 (l.drop i) = (slotB l0 l[i].f0 l[i].f1 && slotsB l0 (l.drop (i + 1))) := by
      unfold slotsB; rw [hdr, List.any_cons]; simp
    rw [tallowref10_obj.l0, if_pos (by omega), if_pos (by omega), rd40 l i hlt, rmay, Option.bind_some, hsl]
    by_cases hm : mayB l[i].f0 l[i].f1 = true
    · rw [hm, if_pos rfl, tallowref10_obj.j3]
      by_cases h0 : l[i].f0 = 0
      · have e0 : (l[i].f0 == 0) = true := by simpa using h0
        rw [e0, if_pos rfl]; unfold slotB; rw [e0]; simp
      · have e0 : (l[i].f0 == 0) = false := by simpa using h0
        rw [e0, if_neg (by decide), rref, Option.bind_some]
        unfold slotB refB
        rw [hm, e0]
        by_cases h5 : l[i].f0 ≥ 5
        · have d5 : decide (l[i].f0 ≥ 5) = true := by simpa using h5
          have hb := may_ref hm h5
          rw [d5, if_pos (by decide)]
          by_cases hb2 : l[i].f1 > (l0.length : Int)
          · have dl : decide (l[i].f1 ≤ (l0.length : Int)) = false := by simp; omega
            rw [if_pos hb2, dl]; simp
          · have dl : decide (l[i].f1 ≤ (l0.length : Int)) = true := by simp; omega
            rw [if_neg hb2, dl, w64 (i := l[i].f1 - 1) (by omega) (by omega), if_pos (by omega), if_pos (by omega)]
            by_cases hk : (rd_T36 l0 (l[i].f1 - 1)).f0 = l[i].f0
            · have ek : ((rd_T36 l0 (l[i].f1 - 1)).f0 == l[i].f0) = true := by simpa using hk
              rw [if_pos hk, ek, w64 (by omega) (by omega), hc, hn]; simp
            · have ek : ((rd_T36 l0 (l[i].f1 - 1)).f0 == l[i].f0) = false := by simpa using hk
              rw [if_neg hk, ek]; simp
        · have d5 : decide (l[i].f0 ≥ 5) = false := by simpa using h5
          rw [d5, if_neg (by decide), w64 (by omega) (by omega), hc, hn]; simp
    · rw [Bool.eq_false_iff.2 hm, if_neg (by decide), tallowref10_obj.j3, if_pos rfl]
      unfold slotB; rw [Bool.eq_false_iff.2 hm]; simp
theorem robj (l0 : List S36) (x : S36) (hl : x.f2.length ≤ 8796093022208) (k : Nat) (hk : 2 * x.f2.length + 5 ≤ k) : tallowref10_obj.f k l0 x.f0 x.f1 x.f2 x.f3 x.f4 = some (objB l0 x) := by
  obtain ⟨k, rfl⟩ : ∃ m, k = m + 1 + 1 := ⟨k - 2, by omega⟩
  have hb := obj_l0 l0 x.f0 x.f1 x.f2 x.f3 x.f4 hl x.f2.length k 0 (by omega) (by omega) (by omega)
  have hb' : tallowref10_obj.l0 k 0 l0 x.f0 x.f1 x.f2 x.f3 x.f4 = some (slotsB l0 x.f2) := by simpa using hb
  unfold tallowref10_obj.f objB
  by_cases h0 : x.f0 = 0
  · rw [if_pos h0, if_pos h0]
    unfold freeB
    by_cases g1 : x.f1 = 0
    · rw [if_pos g1]
      by_cases g2 : x.f2.length = 0
      · rw [if_pos (by omega)]
        by_cases g3 : x.f3.toList = []
        · rw [if_pos g3, g1, g2, g3]; simp
        · have e3 : (x.f3.toList == []) = false := beq_eq_false_iff_ne.2 g3
          rw [if_neg g3, e3]; simp
      · have e2 : (x.f2.length == 0) = false := beq_eq_false_iff_ne.2 g2
        rw [if_neg (by omega), e2]; simp
    · have e1 : (x.f1 == 0) = false := beq_eq_false_iff_ne.2 g1
      rw [if_neg g1, e1]; simp
  rw [if_neg h0, if_neg h0]
  unfold restB headB
  by_cases g1 : x.f0 < 5
  · have d : decide (x.f0 ≥ 5) = false := by simp; omega
    rw [if_pos g1, tallowref10_obj.j0, if_pos rfl, d]; simp
  have d1 : decide (x.f0 ≥ 5) = true := by simp; omega
  rw [if_neg g1, d1]
  by_cases g2 : x.f0 > 9
  · have d : decide (x.f0 ≤ 9) = false := by simp; omega
    rw [if_pos g2, tallowref10_obj.j0, if_pos rfl, d]; simp
  have d2 : decide (x.f0 ≤ 9) = true := by simp; omega
  rw [if_neg g2, d2]
  by_cases g3 : x.f1 < 0
  · have d : decide (x.f1 ≥ 0) = false := by simp; omega
    rw [if_pos g3, tallowref10_obj.j0, if_pos rfl, d]; simp
  have d3 : decide (x.f1 ≥ 0) = true := by simp; omega
  rw [if_neg g3, d3]
  by_cases g4 : x.f4 < -1
  · have d : decide (x.f4 ≥ -1) = false := by simp; omega
    have d' : decide (x.f4 < -1) = true := by simpa using g4
    rw [d', tallowref10_obj.j0, if_pos rfl, d]; simp
  have d4 : decide (x.f4 ≥ -1) = true := by rw [decide_eq_true_eq]; omega
  have d4' : decide (x.f4 < -1) = false := by rw [decide_eq_false_iff_not]; exact g4
  rw [d4', tallowref10_obj.j0, if_neg (by decide), d4]
  unfold bodyB
  by_cases g5 : x.f0 = 5
  · rw [if_pos g5, if_pos g5]
    by_cases g6 : (x.f2.length : Int) > 0
    · have e : (x.f2.length == 0) = false := beq_eq_false_iff_ne.2 (by omega)
      rw [if_pos g6, tallowref10_obj.j1, if_pos rfl, e]; simp
    · have e : (x.f2.length == 0) = true := beq_iff_eq.2 (by omega)
      rw [if_neg g6, tallowref10_obj.j1, if_neg (by decide), hb', e]; simp
  · rw [if_neg g5, if_neg g5]
    by_cases g6 : x.f3.toList = []
    · have e : (x.f3.toList == []) = true := by simpa using g6
      have e' : (x.f3.toList != []) = false := by simpa using g6
      rw [e', tallowref10_obj.j1, if_neg (by decide), hb', e]; simp
    · have e : (x.f3.toList == []) = false := beq_eq_false_iff_ne.2 g6
      have e' : (x.f3.toList != []) = true := by simpa using g6
      rw [e', tallowref10_obj.j1, if_pos rfl, e]; simp
theorem rcheck_from (l0 : List S36) (hz : sizesB l0 = true) (M : Nat) (hM : ∀ (i : Nat) (h : i < l0.length), 2 * l0[i].f2.length + 5 ≤ M) (d : Nat) : ∀ (k i : Nat), l0.length - i = d → i ≤ l0.length → M + d < k →
    tallowref10_Check.l0 k i l0 = some (!((l0.drop i).any fun x => !objB l0 x)) := by
  obtain ⟨z1, z2⟩ := sizes_at hz
  induction d with
  | zero =>
    intro k i hd hi hk
    obtain ⟨k, rfl⟩ : ∃ m, k = m + 1 := ⟨k - 1, by omega⟩
    have hii : i = l0.length := by omega
    subst hii
    rw [tallowref10_Check.l0, if_neg (by omega)]
    simp
  | succ d ih =>
    intro k i hd hi hk
    obtain ⟨k, rfl⟩ : ∃ m, k = m + 1 := ⟨k - 1, by omega⟩
    have hlt : i < l0.length := by omega
    have hdr : l0.drop i = l0[i] :: l0.drop (i + 1) := List.drop_eq_getElem_cons hlt
    have hn := ih k (i + 1) (by omega) (by omega) (by omega)
    have hc : ((i : Int) + 1) = ((i + 1 : Nat) : Int) := by omega
    rw [tallowref10_Check.l0, if_pos (by omega), if_pos (by omega), rd36 l0 i hlt, robj l0 l0[i] (z2 i hlt) k (by have := hM i hlt; omega), Option.bind_some, hdr, List.any_cons]
    by_cases ho : objB l0 l0[i] = true
    · rw [ho, if_pos rfl, w64 (by omega) (by omega), hc, hn]; simp
    · rw [Bool.eq_false_iff.2 ho, if_neg (by decide)]; simp
theorem fuelM (l0 : List S36) : ∃ M, ∀ (i : Nat) (h : i < l0.length), 2 * l0[i].f2.length + 5 ≤ M := by
  induction l0 with
  | nil => exact ⟨0, fun i h => by simp at h⟩
  | cons x l ih =>
    obtain ⟨M, hM⟩ := ih
    refine ⟨M + (2 * x.f2.length + 5), fun i h => ?_⟩
    cases i with
    | zero => show 2 * x.f2.length + 5 ≤ _; omega
    | succ i => have hi : i < l.length := by simpa using h
                have := hM i hi
                show 2 * l[i].f2.length + 5 ≤ _; omega
theorem rcheck (l0 : List S36) (hz : sizesB l0 = true) (M : Nat) (hM : ∀ (i : Nat) (h : i < l0.length), 2 * l0[i].f2.length + 5 ≤ M) (k : Nat) (hk : M + l0.length < k) : tallowref10_Check.f k l0 = some (checkB l0) := by
  unfold tallowref10_Check.f checkB
  have := rcheck_from l0 hz M hM l0.length k 0 (by omega) (by omega) hk
  simpa using this
/-- what a graph's reading gives -/
def OkObj (x : S36) : Prop := (Lit.int .i64 x.f0).wf = true ∧ ((Lit.int .i64 x.f1).wf = true ∧ ((x.f2.length * 16 ≤ 140737488351232 ∧ ∀ y ∈ x.f2, (Lit.int .i64 y.f0).wf = true ∧ (Lit.int .i64 y.f1).wf = true) ∧ (x.f3.size ≤ 140737488351232 ∧ (Lit.int .i64 x.f4).wf = true)))
theorem sizes_ok {l0 : List S36} (h : l0.length * 64 ≤ 140737488351232 ∧ ∀ x ∈ l0, OkObj x) : sizesB l0 = true := by
  unfold sizesB
  simp only [Bool.and_eq_true, decide_eq_true_eq, List.all_eq_true]
  refine ⟨by omega, fun x hx => ?_⟩
  have := (h.2 x hx).2.2.1.1
  omega
theorem checks_all (l : List S36) (ok : l.length * 64 ≤ 140737488351232 ∧ ∀ x ∈ l, OkObj x) : ∃ k, tallowlaw10_GraphChecks.f k l = some true := by
  have hz := sizes_ok ok
  obtain ⟨M, hM⟩ := fuelM l
  refine ⟨M + l.length + 1, ?_⟩
  have e1 : graph_Check.f l = some (checkB l) := rfl
  have e2 := rcheck l hz M hM (M + l.length + 1) (by omega)
  have e3 : tallowlaw10_works.f = some true := rfl
  unfold tallowlaw10_GraphChecks.f
  rw [e1, Option.bind_some, e2, Option.bind_some, e3, Option.bind_some, if_pos (by simp)]
end Go.Proofs.Ytlpieciihlgdiaa.G
