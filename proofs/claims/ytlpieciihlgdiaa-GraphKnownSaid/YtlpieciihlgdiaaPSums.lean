import Derived.Test.YtlpieciihlgdiaaPz
import Derived.Test.YtlpieciihlgdiaaGxF5
import Derived.Lib.Hide
import Derived.Maps.OwnOps
import Derived.Maps.OwnSet
import Derived.Maps.Views
namespace Go.Proofs.Ytlpieciihlgdiaa.G
open Go.RowKit Go.Proofs.YtlpieciihlgdiaaW.PrintWords Go.Proofs.YtlpieciihlgdiaaW.PrintLast Go.Proofs.YtlpieciihlgdiaaW.PrintMore
set_option linter.unusedVariables false
set_option linter.unusedSimpArgs false
/-! what leads to an object, summed over all objects -/
def sumTo (f : Nat → Int) : Nat → Int
  | 0 => 0
  | n + 1 => sumTo f n + f n
theorem countP_step (xs : List Int) (n : Nat) : ((xs.filter fun x => decide (1 ≤ x ∧ x ≤ ((n + 1 : Nat) : Int))).length : Int) = (xs.filter fun x => decide (1 ≤ x ∧ x ≤ (n : Int))).length + (xs.count ((n : Int) + 1) : Int) := by
  induction xs with
  | nil => simp
  | cons y xs ih =>
    rw [List.filter_cons, List.filter_cons, List.count_cons]
    by_cases h1 : 1 ≤ y ∧ y ≤ (n : Int)
    · have h2 : 1 ≤ y ∧ y ≤ ((n + 1 : Nat) : Int) := ⟨h1.1, by omega⟩
      have h3 : (y == (n : Int) + 1) = false := by rw [beq_eq_false_iff_ne]; omega
      rw [if_pos (decide_eq_true h2), if_pos (decide_eq_true h1), h3, if_neg (by decide)]
      simp only [List.length_cons]; omega
    · by_cases h4 : y = (n : Int) + 1
      · have h2 : 1 ≤ y ∧ y ≤ ((n + 1 : Nat) : Int) := ⟨by omega, by omega⟩
        have h3 : (y == (n : Int) + 1) = true := by rw [beq_iff_eq]; exact h4
        rw [if_pos (decide_eq_true h2), if_neg (by simpa using h1), h3, if_pos rfl]
        simp only [List.length_cons]; omega
      · have h2 : ¬ (1 ≤ y ∧ y ≤ ((n + 1 : Nat) : Int)) := by omega
        have h3 : (y == (n : Int) + 1) = false := by rw [beq_eq_false_iff_ne]; exact h4
        rw [if_neg (fun h => h2 (of_decide_eq_true h)), if_neg (fun h => h1 (of_decide_eq_true h)), h3, if_neg (by decide)]
        omega
theorem sum_counts (xs : List Int) (n : Nat) : sumTo (fun i => (xs.count ((i : Int) + 1) : Int)) n = (xs.filter fun x => decide (1 ≤ x ∧ x ≤ (n : Int))).length := by
  induction n with
  | zero =>
    have : (xs.filter fun x => decide (1 ≤ x ∧ x ≤ ((0 : Nat) : Int))) = [] := by
      rw [List.filter_eq_nil_iff]; intro a _; simp; omega
    rw [this]; rfl
  | succ n ih => rw [sumTo, ih, countP_step]
theorem sum_counts_all (xs : List Int) (n : Nat) (h : ∀ x ∈ xs, 1 ≤ x ∧ x ≤ (n : Int)) : sumTo (fun i => (xs.count ((i : Int) + 1) : Int)) n = xs.length := by
  rw [sum_counts]
  have : (xs.filter fun x => decide (1 ≤ x ∧ x ≤ (n : Int))) = xs := List.filter_eq_self.2 fun a ha => decide_eq_true (h a ha)
  rw [this]
def refsN (l : List S36) (i : Nat) : Int := (refsL (rd_T36 l (i : Int)).f2).length
theorem sum_refs (l : List S36) (n : Nat) (h : n ≤ l.length) : sumTo (refsN l) n = (allRefs (l.take n)).length := by
  induction n with
  | zero => simp [sumTo, allRefs]
  | succ n ih =>
    have hlt : n < l.length := by omega
    rw [sumTo, ih (by omega), allRefs_step l n hlt, List.length_append, refsN, rd36 l n hlt]; omega
/-- where the check holds, every object that a list leads to stands there, and is one -/
theorem ref_at {l : List S36} (hc : checkB l = true) {y : Int} (hy : y ∈ allRefs l) : 1 ≤ y ∧ y ≤ (l.length : Int) ∧ (rd_T36 l (y - 1)).f0 ≠ 0 := by
  unfold allRefs at hy
  obtain ⟨o, ho, hy⟩ := List.mem_flatMap.1 hy
  obtain ⟨x, hx, rfl⟩ := List.mem_map.1 hy
  obtain ⟨hx, hr⟩ := List.mem_filter.1 hx
  have hob : objB l o = true := by
    unfold checkB at hc
    cases h : objB l o
    · have : l.any (fun x => !objB l x) = true := List.any_eq_true.2 ⟨o, ho, by rw [h]; rfl⟩
      rw [this] at hc; cases hc
    · rfl
  have hne : o.f0 ≠ 0 := by
    intro h0
    unfold objB at hob
    rw [if_pos h0] at hob
    unfold freeB at hob
    simp only [Bool.and_eq_true, beq_iff_eq] at hob
    have : o.f2 = [] := List.length_eq_zero_iff.1 hob.2.1
    rw [this] at hx; cases hx
  unfold objB at hob
  rw [if_neg hne] at hob
  unfold restB at hob
  simp only [Bool.and_eq_true] at hob
  have hsl : slotB l x.f0 x.f1 = true := by
    have h3 := hob.2.2
    unfold slotsB at h3
    cases h : slotB l x.f0 x.f1
    · have : o.f2.any (fun x => !slotB l x.f0 x.f1) = true := List.any_eq_true.2 ⟨x, hx, by rw [h]; rfl⟩
      rw [this] at h3; cases h3
    · rfl
  unfold refB at hr
  simp only [Bool.and_eq_true, decide_eq_true_eq] at hr
  have hb := may_ref hr.2 hr.1
  unfold slotB at hsl
  have d5 : decide (x.f0 ≥ 5) = true := decide_eq_true hr.1
  rw [d5] at hsl
  simp only [Bool.and_eq_true, Bool.not_true, Bool.false_or, decide_eq_true_eq, beq_iff_eq] at hsl
  refine ⟨hb.1, hsl.2.2.1, ?_⟩
  rw [hsl.2.2.2]
  omega
theorem no_ref {l : List S36} (hc : checkB l = true) {i : Nat} (h : i < l.length) (h0 : (rd_T36 l (i : Int)).f0 = 0) : cnt (allRefs l) ((i : Int) + 1) = 0 := by
  have : (allRefs l).count ((i : Int) + 1) = 0 := by
    refine List.count_eq_zero.2 fun hm => ?_
    obtain ⟨_, _, h3⟩ := ref_at hc hm
    have e : (i : Int) + 1 - 1 = (i : Int) := by omega
    rw [e] at h3
    exact h3 h0
  unfold cnt; rw [this, w64 (by decide) (by decide)]; rfl
theorem intoL_at {l : List S36} (hc : checkB l = true) {i : Nat} (h : i < l.length) : rd (intoL l) (i : Int) = cnt (allRefs l) ((i : Int) + 1) := by
  show (intoL l).getD i 0 = _
  unfold intoL; rw [if_pos hc, List.getD_eq_getElem?_getD, List.getElem?_map, List.getElem?_range h, Option.map_some, Option.getD_some]
theorem sums_from (l : List S36) (hz : sizesB l = true) (hc : checkB l = true) (M : Nat) (hM : ∀ (i : Nat) (h : i < l.length), 2 * l[i].f2.length + 5 ≤ M) (d : Nat) : ∀ (k i : Nat), l.length - i = d → i ≤ l.length → M + d < k →
    tallowlaw10_GraphSums.l0 k (intoL l) (wrap64 (sumTo (fun i => ((allRefs l).count ((i : Int) + 1) : Int)) i)) (wrap64 (sumTo (refsN l) i)) i l = some true := by
  obtain ⟨z1, z2⟩ := sizes_at hz
  have hlen : (intoL l).length = l.length := by unfold intoL; rw [if_pos hc]; simp
  induction d with
  | zero =>
    intro k i hd hi hk
    obtain ⟨k, rfl⟩ : ∃ m, k = m + 1 := ⟨k - 1, by omega⟩
    have hii : i = l.length := by omega
    subst hii
    rw [tallowlaw10_GraphSums.l0, if_neg (by omega)]
    have h1 := sum_refs l l.length (Nat.le_refl _)
    rw [List.take_length] at h1
    have h2 := sum_counts_all (allRefs l) l.length fun y hy => ⟨(ref_at hc hy).1, (ref_at hc hy).2.1⟩
    rw [h1, h2]; simp
  | succ d ih =>
    intro k i hd hi hk
    obtain ⟨k, rfl⟩ : ∃ m, k = m + 1 := ⟨k - 1, by omega⟩
    have hlt : i < l.length := by omega
    have hn := ih k (i + 1) (by omega) (by omega) (by omega)
    have hc1 : ((i : Int) + 1) = ((i + 1 : Nat) : Int) := by omega
    have hM' := hM i hlt
    have ha : ∀ a b : Int, wrap64 (wrap64 a + wrap64 b) = wrap64 (a + b) := fun a b => by unfold wrap64; omega
    have ha2 : ∀ a b : Int, wrap64 (wrap64 a + b) = wrap64 (a + b) := fun a b => by unfold wrap64; omega
    rw [sumTo, sumTo] at hn
    rw [tallowlaw10_GraphSums.l0, if_pos (by omega), if_pos (by omega), if_pos (by omega), rd36 l i hlt, vrefs l[i].f2 (z2 i hlt) k (by omega), Option.bind_some, w64 (i := (i : Int) + 1) (by omega) (by omega), intoL_at hc hlt]
    have hs : tallowlaw10_GraphSums.l0 k (intoL l) (wrap64 (wrap64 (sumTo (fun i => ((allRefs l).count ((i : Int) + 1) : Int)) i) + cnt (allRefs l) ((i : Int) + 1))) (wrap64 (wrap64 (sumTo (refsN l) i) + ((refsL l[i].f2).length : Int))) ((i : Int) + 1) l = some true := by
      have e2 : refsN l i = ((refsL l[i].f2).length : Int) := by unfold refsN; rw [rd36 l i hlt]
      rw [cnt, ha, ha2, hc1, ← e2]
      rw [hc1] at hn
      exact hn
    by_cases h0 : l[i].f0 = 0
    · rw [if_pos h0, if_pos (no_ref hc hlt (by rw [rd36 l i hlt]; exact h0)), hs]
    · rw [if_neg h0, hs]
theorem sums_all (l : List S36) (ok : l.length * 64 ≤ 140737488351232 ∧ ∀ x ∈ l, OkObj x) : ∃ k, tallowlaw10_GraphSums.f k l = some true := by
  have hz := sizes_ok ok
  obtain ⟨M, hM⟩ := fuelM l
  have e1 : graph_Into.f l = some (intoL l) := if_pos hz
  have e2 : graph_Check.f l = some (checkB l) := rfl
  have e3 : tallowlaw10_works.f = some true := rfl
  refine ⟨M + l.length + 1, ?_⟩
  unfold tallowlaw10_GraphSums.f
  rw [e3, Option.bind_some, if_pos rfl, e1, Option.bind_some, e2, Option.bind_some]
  by_cases hc : checkB l = true
  · have hlen : (intoL l).length = l.length := by unfold intoL; rw [if_pos hc]; simp
    rw [if_pos hc, if_pos (by omega)]
    have := sums_from l hz hc M hM l.length (M + l.length + 1) 0 (by omega) (by omega) (by omega)
    have w0 : wrap64 0 = 0 := w64 (by omega) (by omega)
    rw [sumTo, sumTo, w0] at this
    exact this
  · have hi : intoL l = [] := by unfold intoL; rw [if_neg hc]
    rw [if_neg hc, hi]; rfl
end Go.Proofs.Ytlpieciihlgdiaa.G
