import Derived.Test.YtlpieciihlgdiaaPz
import Derived.Test.YtlpieciihlgdiaaGxF18
import Derived.Lib.Hide
import Derived.Maps.OwnOps
import Derived.Maps.OwnSet
import Derived.Maps.Views
namespace Go.Proofs.Ytlpieciihlgdiaa.G
open Go.RowKit Go.Proofs.YtlpieciihlgdiaaW.PrintWords Go.Proofs.YtlpieciihlgdiaaW.PrintLast Go.Proofs.YtlpieciihlgdiaaW.PrintMore
set_option linter.unusedVariables false
set_option linter.unusedSimpArgs false
/-! the holders -/
def holdB (l : List S36) (x : Int) (i : Nat) : Bool := (refsL (rd_T36 l (i : Int)).f2).contains x
def holdTo (l : List S36) (x : Int) (n : Nat) : List Int := ((List.range n).filter (holdB l x)).map fun (i : Nat) => (i : Int) + 1
theorem holdTo_yes {l : List S36} {x : Int} {n : Nat} (h : holdB l x n = true) : holdTo l x (n + 1) = holdTo l x n ++ [(n : Int) + 1] := by
  unfold holdTo; rw [List.range_succ, List.filter_append]; simp [h]
theorem holdTo_no {l : List S36} {x : Int} {n : Nat} (h : holdB l x n = false) : holdTo l x (n + 1) = holdTo l x n := by
  unfold holdTo; rw [List.range_succ, List.filter_append]; simp [h]
theorem holdTo_le (l : List S36) (x : Int) (n : Nat) : (holdTo l x n).length ≤ n := by
  unfold holdTo; rw [List.length_map]; exact Nat.le_trans (List.length_filter_le _ _) (by simp)
def holdL (l : List S36) (x : Int) : List Int := if checkB l = true then holdTo l x l.length else []
theorem index_from (xs : List Int) (x : Int) (hl : xs.length ≤ 17592186044416) (d : Nat) : ∀ (k i : Nat), xs.length - i = d → i ≤ xs.length → d < k →
    ∃ r, slices_Index_int_int.l0 k xs x xs.length i = some r ∧ decide (r ≥ 0) = (xs.drop i).contains x := by
  induction d with
  | zero =>
    intro k i hd hi hk
    obtain ⟨k, rfl⟩ : ∃ m, k = m + 1 := ⟨k - 1, by omega⟩
    have hii : i = xs.length := by omega
    subst hii
    exact ⟨-1, by rw [slices_Index_int_int.l0, if_neg (by omega)], by simp⟩
  | succ d ih =>
    intro k i hd hi hk
    obtain ⟨k, rfl⟩ : ∃ m, k = m + 1 := ⟨k - 1, by omega⟩
    have hlt : i < xs.length := by omega
    have hdr : xs.drop i = xs[i] :: xs.drop (i + 1) := List.drop_eq_getElem_cons hlt
    have hrd : rd xs (i : Int) = xs[i] := by
      show xs.getD i 0 = _
      rw [List.getD_eq_getElem?_getD]; simp [hlt]
    have hc : ((i : Int) + 1) = ((i + 1 : Nat) : Int) := by omega
    by_cases e : x = xs[i]
    · refine ⟨i, by rw [slices_Index_int_int.l0, if_pos (by omega), if_pos (by omega), if_pos (by omega), hrd, if_pos e], ?_⟩
      rw [hdr, List.contains_cons, ← e]; simp
    · obtain ⟨r, h1, h2⟩ := ih k (i + 1) (by omega) (by omega) (by omega)
      refine ⟨r, by rw [slices_Index_int_int.l0, if_pos (by omega), if_pos (by omega), if_pos (by omega), hrd, if_neg e, w64 (by omega) (by omega), hc, h1], ?_⟩
      rw [h2, hdr, List.contains_cons]
      have : (x == xs[i]) = false := by simpa using e
      rw [this, Bool.false_or]
theorem rcontains (xs : List Int) (x : Int) (hl : xs.length ≤ 17592186044416) (k : Nat) (hk : xs.length < k) : slices_Contains_int_int.f k xs x = some (xs.contains x) := by
  obtain ⟨r, h1, h2⟩ := index_from xs x hl xs.length k 0 (by omega) (by omega) hk
  unfold slices_Contains_int_int.f slices_Index_int_int.f
  have h1' : slices_Index_int_int.l0 k xs x xs.length 0 = some r := h1
  rw [h1', Option.bind_some, h2]; simp
theorem gholders_from (l : List S36) (hz : sizesB l = true) (x : Int) (M : Nat) (hM : ∀ (i : Nat) (h : i < l.length), 2 * l[i].f2.length + 5 ≤ M) (d : Nat) : ∀ (k i : Nat), l.length - i = d → i ≤ l.length → M + d < k →
    graph_Holders.l0 k x (holdTo l x i) l l.length i = some (holdTo l x l.length) := by
  obtain ⟨z1, z2⟩ := sizes_at hz
  induction d with
  | zero =>
    intro k i hd hi hk
    obtain ⟨k, rfl⟩ : ∃ m, k = m + 1 := ⟨k - 1, by omega⟩
    have hii : i = l.length := by omega
    subst hii
    rw [graph_Holders.l0, if_neg (by omega)]
  | succ d ih =>
    intro k i hd hi hk
    obtain ⟨k, rfl⟩ : ∃ m, k = m + 1 := ⟨k - 1, by omega⟩
    have hlt : i < l.length := by omega
    have hn := ih k (i + 1) (by omega) (by omega) (by omega)
    have hc : ((i : Int) + 1) = ((i + 1 : Nat) : Int) := by omega
    have hxl := holdTo_le l x i
    have hM' := hM i hlt
    have hz2 := z2 i hlt
    have hrl := refsL_le l[i].f2
    rw [graph_Holders.l0, if_pos (by omega), if_pos (by omega), if_pos (by omega), rd36 l i hlt, vrefs l[i].f2 hz2 k (by omega), Option.bind_some, rcontains _ x (by omega) k (by omega), Option.bind_some, w64 (i := (i : Int) + 1) (by omega) (by omega)]
    cases hb : (refsL l[i].f2).contains x
    · have hb' : holdB l x i = false := by unfold holdB; rw [rd36 l i hlt]; exact hb
      rw [if_neg (by decide)]
      rw [holdTo_no hb'] at hn
      rw [hc]; exact hn
    · have hb' : holdB l x i = true := by unfold holdB; rw [rd36 l i hlt]; exact hb
      rw [if_pos rfl, if_pos (by omega)]
      rw [holdTo_yes hb'] at hn
      rw [hc] at hn ⊢; exact hn
theorem gholders (l : List S36) (hz : sizesB l = true) (x : Int) (M : Nat) (hM : ∀ (i : Nat) (h : i < l.length), 2 * l[i].f2.length + 5 ≤ M) (k : Nat) (hk : M + l.length < k) : graph_Holders.f k l x = some (holdL l x) := by
  unfold graph_Holders.f holdL
  have e1 : graph_Check.f l = some (checkB l) := rfl
  rw [e1, Option.bind_some]
  by_cases hc : checkB l = true
  · rw [if_pos hc, if_pos hc]
    have := gholders_from l hz x M hM l.length k 0 (by omega) (by omega) hk
    simpa [holdTo] using this
  · rw [if_neg hc, if_neg hc]
end Go.Proofs.Ytlpieciihlgdiaa.G
