import Derived.Test.YtlpieciihlgdiaaPg
import Derived.Test.YtlpieciihlgdiaaGxF6
import Derived.Lib.Hide
import Derived.Maps.OwnOps
import Derived.Maps.OwnSet
import Derived.Maps.Views
namespace Go.Proofs.Ytlpieciihlgdiaa.G
open Go.RowKit Go.Proofs.YtlpieciihlgdiaaW.PrintWords Go.Proofs.YtlpieciihlgdiaaW.PrintLast Go.Proofs.YtlpieciihlgdiaaW.PrintMore
set_option linter.unusedVariables false
set_option linter.unusedSimpArgs false
/-! the holders are in order, and they are all -/
theorem hold_inner (l : List S36) (x : Int) (a : List Int) (p q : Int) (t : List Int) (ht : t.length ≤ 17592186044416) (m : Nat) (d : Nat) : ∀ (i : Nat) (b : Bool), t.length - i = d → i ≤ t.length →
    tallowlaw10_GraphHolders.l1 (m + d + 1) x a p q b t i l = (if (b || (t.drop i).contains x) = true then (if p ≥ (a.length : Int) then (some false) else (if 0 ≤ p then (if p < (a.length : Int) then (if (rd a p) = (wrap64 (q + 1)) then (tallowlaw10_GraphHolders.l0 m x a (wrap64 (p + 1)) (wrap64 (q + 1)) l) else (some false)) else (none)) else (none))) else (tallowlaw10_GraphHolders.l0 m x a p (wrap64 (q + 1)) l)) := by
  induction d with
  | zero =>
    intro i b hd hi
    have hii : i = t.length := by omega
    subst hii
    rw [tallowlaw10_GraphHolders.l1, if_neg (by omega)]
    simp only [List.drop_length, List.contains_nil, Bool.or_false]
  | succ d ih =>
    intro i b hd hi
    have hlt : i < t.length := by omega
    have hdr : t.drop i = t[i] :: t.drop (i + 1) := List.drop_eq_getElem_cons hlt
    have hrd : rd t (i : Int) = t[i] := by
      show t.getD i 0 = _
      rw [List.getD_eq_getElem?_getD]; simp [hlt]
    have hc : ((i : Int) + 1) = ((i + 1 : Nat) : Int) := by omega
    rw [tallowlaw10_GraphHolders.l1, if_pos (by omega), w64 (by omega) (by omega), hc]
    cases b
    · rw [if_neg (by decide), if_pos (by omega)]
      refine (ih (i + 1) (rd t (i : Int) == x) (by omega) (by omega)).trans ?_
      rw [hrd, hdr, List.contains_cons, Bool.false_or]
      have : (x == t[i]) = (t[i] == x) := by rw [Bool.eq_iff_iff, beq_iff_eq, beq_iff_eq]; exact ⟨Eq.symm, Eq.symm⟩
      rw [this]
    · rw [if_pos rfl]
      refine (ih (i + 1) true (by omega) (by omega)).trans ?_
      rw [Bool.true_or, Bool.true_or]
theorem holdTo_split (l : List S36) (x : Int) {i n : Nat} (h : i < n) (hb : holdB l x i = true) : (holdTo l x n).getD (holdTo l x i).length 0 = (i : Int) + 1 ∧ (holdTo l x i).length < (holdTo l x n).length := by
  induction n with
  | zero => omega
  | succ n ih =>
    rcases Nat.lt_or_ge i n with h1 | h1
    · obtain ⟨g1, g2⟩ := ih h1
      cases hn : holdB l x n
      · rw [holdTo_no hn]; exact ⟨g1, g2⟩
      · rw [holdTo_yes hn]
        refine ⟨?_, by rw [List.length_append]; omega⟩
        rw [List.getD_eq_getElem?_getD, List.getElem?_append_left g2, ← List.getD_eq_getElem?_getD]; exact g1
    · have : i = n := by omega
      subst this
      rw [holdTo_yes hb]
      exact ⟨by rw [List.getD_eq_getElem?_getD]; simp, by rw [List.length_append]; simp⟩
theorem holders_from (l : List S36) (hz : sizesB l = true) (x : Int) (M : Nat) (hM : ∀ (i : Nat) (h : i < l.length), 2 * l[i].f2.length + 5 ≤ M) (s : Nat) (d : Nat) : ∀ (i : Nat), l.length - i = d → i ≤ l.length →
    ∃ k, tallowlaw10_GraphHolders.l0 k x (holdTo l x l.length) (holdTo l x i).length i l = some true := by
  obtain ⟨z1, z2⟩ := sizes_at hz
  induction d with
  | zero =>
    intro i hd hi
    have hii : i = l.length := by omega
    subst hii
    exact ⟨1, by rw [tallowlaw10_GraphHolders.l0, if_neg (by omega)]; simp⟩
  | succ d ih =>
    intro i hd hi
    have hlt : i < l.length := by omega
    obtain ⟨k0, hk0⟩ := ih (i + 1) (by omega) (by omega)
    have hrl := refsL_le l[i].f2
    have hz2 := z2 i hlt
    have hxl := holdTo_le l x i
    have hc : ((i : Int) + 1) = ((i + 1 : Nat) : Int) := by omega
    -- fuel enough for both
    have hup : ∀ j, tallowlaw10_GraphHolders.l0 (k0 + j) x (holdTo l x l.length) (holdTo l x (i + 1)).length ((i + 1 : Nat) : Int) l = some true := by
      intro j
      induction j with
      | zero => exact hk0
      | succ j ihj => exact (tallowlaw10_GraphHolders.mono_l (k0 + j)).1 _ _ _ _ _ _ ihj
    refine ⟨(k0 + l[i].f2.length) + (refsL l[i].f2).length + 1 + 1, ?_⟩
    rw [tallowlaw10_GraphHolders.l0, if_pos (by omega), if_pos (by omega), rd36 l i hlt, vrefs l[i].f2 hz2 _ (by omega), Option.bind_some]
    refine (hold_inner l x _ _ _ (refsL l[i].f2) (by omega) (k0 + l[i].f2.length) (refsL l[i].f2).length 0 false (by omega) (by omega)).trans ?_
    rw [Bool.false_or, List.drop_zero, w64 (i := (i : Int) + 1) (by omega) (by omega), hc]
    cases hb : (refsL l[i].f2).contains x
    · have hb' : holdB l x i = false := by unfold holdB; rw [rd36 l i hlt]; exact hb
      rw [if_neg (by decide)]
      have := hup l[i].f2.length
      rw [holdTo_no hb'] at this
      exact this
    · have hb' : holdB l x i = true := by unfold holdB; rw [rd36 l i hlt]; exact hb
      obtain ⟨g1, g2⟩ := holdTo_split l x hlt hb'
      have hrd : rd (holdTo l x l.length) ((holdTo l x i).length : Int) = ((i + 1 : Nat) : Int) := by
        rw [← hc]; exact g1
      have hl2 := holdTo_le l x l.length
      rw [if_pos rfl, if_neg (by omega), if_pos (by omega), if_pos (by omega), if_pos hrd, w64 (i := ((holdTo l x i).length : Int) + 1) (by omega) (by omega)]
      have := hup l[i].f2.length
      have e : ((holdTo l x (i + 1)).length : Int) = ((holdTo l x i).length : Int) + 1 := by rw [holdTo_yes hb', List.length_append]; simp
      rw [e] at this
      exact this
theorem holders_all (l : List S36) (x : Int) (ok : l.length * 64 ≤ 140737488351232 ∧ ∀ x ∈ l, OkObj x) (_ : (Lit.int .i64 x).wf = true) : ∃ k, tallowlaw10_GraphHolders.f k l x = some true := by
  have hz := sizes_ok ok
  obtain ⟨M, hM⟩ := fuelM l
  have e2 : graph_Check.f l = some (checkB l) := rfl
  have e3 : tallowlaw10_works.f = some true := rfl
  by_cases hc : checkB l = true
  · obtain ⟨k, hk⟩ := holders_from l hz x M hM 0 l.length 0 (by omega) (by omega)
    have hup : ∀ j, tallowlaw10_GraphHolders.l0 (k + j) x (holdTo l x l.length) (holdTo l x 0).length ((0 : Nat) : Int) l = some true := by
      intro j
      induction j with
      | zero => exact hk
      | succ j ihj => exact (tallowlaw10_GraphHolders.mono_l (k + j)).1 _ _ _ _ _ _ ihj
    refine ⟨k + (M + l.length + 1), ?_⟩
    unfold tallowlaw10_GraphHolders.f
    rw [e3, Option.bind_some, if_pos rfl, gholders l hz x M hM _ (by omega), Option.bind_some, e2, Option.bind_some, if_pos hc]
    have hh : holdL l x = holdTo l x l.length := if_pos hc
    rw [hh]
    have := hup (M + l.length + 1)
    simpa [holdTo] using this
  · refine ⟨M + l.length + 1, ?_⟩
    have hh : holdL l x = [] := if_neg hc
    unfold tallowlaw10_GraphHolders.f
    rw [e3, Option.bind_some, if_pos rfl, gholders l hz x M hM _ (by omega), Option.bind_some, e2, Option.bind_some, if_neg hc, hh]; rfl
end Go.Proofs.Ytlpieciihlgdiaa.G
