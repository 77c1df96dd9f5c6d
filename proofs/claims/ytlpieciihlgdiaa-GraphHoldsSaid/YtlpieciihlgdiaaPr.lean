import Derived.Test.YtlpieciihlgdiaaPg
import Derived.Test.YtlpieciihlgdiaaGxF15
import Derived.Test.YtlpieciihlgdiaaGxF17
import Derived.Test.YtlpieciihlgdiaaGxF19
import Derived.Test.YtlpieciihlgdiaaGxF13
import Derived.Lib.Hide
import Derived.Maps.OwnOps
import Derived.Maps.OwnSet
import Derived.Maps.Views
namespace Go.Proofs.Ytlpieciihlgdiaa.G
open Go.RowKit Go.Proofs.YtlpieciihlgdiaaW.PrintWords Go.Proofs.YtlpieciihlgdiaaW.PrintLast Go.Proofs.YtlpieciihlgdiaaW.PrintMore
set_option linter.unusedVariables false
set_option linter.unusedSimpArgs false
theorem take40 (l : List S40) (i : Nat) (h : i < l.length) : refsL (l.take (i + 1)) = refsL (l.take i) ++ refsL [l[i]] := by
  unfold refsL; rw [List.take_succ_eq_append_getElem h, List.filter_append, List.map_append]
theorem rtimes_from (l : List S40) (hl : l.length ≤ 8796093022208) (x : Int) (d : Nat) : ∀ (k i : Nat), l.length - i = d → i ≤ l.length → d + 1 < k →
    tallowref10_Times.l0 k l x (cnt (refsL (l.take i)) x) i = some (cnt (refsL l) x) := by
  induction d with
  | zero =>
    intro k i hd hi hk
    obtain ⟨k, rfl⟩ : ∃ m, k = m + 1 := ⟨k - 1, by omega⟩
    have hii : i = l.length := by omega
    subst hii
    rw [tallowref10_Times.l0, if_neg (by omega)]
    simp
  | succ d ih =>
    intro k i hd hi hk
    obtain ⟨k, rfl⟩ : ∃ m, k = m + 1 + 1 := ⟨k - 2, by omega⟩
    have hlt : i < l.length := by omega
    have hn := ih (k + 1) (i + 1) (by omega) (by omega) (by omega)
    have hc : ((i : Int) + 1) = ((i + 1 : Nat) : Int) := by omega
    have ht := take40 l i hlt
    rw [tallowref10_Times.l0, if_pos (by omega), if_pos (by omega), rd40 l i hlt, rref, Option.bind_some, w64 (i := (i : Int) + 1) (by omega) (by omega), hc]
    cases hr : refB l[i].f0 l[i].f1
    · rw [if_neg (by decide)]
      rw [refsL_no hr] at ht
      rw [ht] at hn
      simpa [refsL] using hn
    · rw [if_pos rfl]
      have h1 : refsL [l[i]] = [l[i].f1] := by rw [refsL_yes hr]; simp [refsL]
      rw [h1] at ht
      rw [ht, cnt_step] at hn
      dsimp only at hn
      by_cases e : l[i].f1 = x
      · rw [if_pos e]; rw [if_pos e.symm, e] at hn; exact hn
      · rw [if_neg e]; rw [if_neg (fun h => e h.symm)] at hn; exact hn
theorem rtimes (l : List S40) (hl : l.length ≤ 8796093022208) (x : Int) (k : Nat) (hk : l.length + 1 < k) : tallowref10_Times.f k l x = some (cnt (refsL l) x) := by
  unfold tallowref10_Times.f
  have := rtimes_from l hl x l.length k 0 (by omega) (by omega) hk
  simpa [refsL, cnt, wrap64] using this
theorem wadd (xs ys : List Int) (x : Int) : wrap64 (cnt xs x + cnt ys x) = cnt (xs ++ ys) x := by
  unfold cnt; rw [List.count_append]; unfold wrap64; omega
theorem rinto1 (l : List S36) (hz : sizesB l = true) (M : Nat) (hM : ∀ (i : Nat) (h : i < l.length), 2 * l[i].f2.length + 5 ≤ M) (a : List Int) (x : Int) (m : Nat) (hm : M ≤ m) (d : Nat) : ∀ (i : Nat), l.length - i = d → i ≤ l.length →
    tallowref10_Into.l1 (m + d + 1) a x (cnt (allRefs (l.take i)) x) i l = if a.length < 17592186044416 then tallowref10_Into.l0 m (a ++ [cnt (allRefs l) x]) (wrap64 (x + 1)) l else none := by
  obtain ⟨z1, z2⟩ := sizes_at hz
  induction d with
  | zero =>
    intro i hd hi
    have hii : i = l.length := by omega
    subst hii
    rw [tallowref10_Into.l1, if_neg (by omega)]
    simp
  | succ d ih =>
    intro i hd hi
    have hlt : i < l.length := by omega
    have hn := ih (i + 1) (by omega) (by omega)
    have hc : ((i : Int) + 1) = ((i + 1 : Nat) : Int) := by omega
    rw [tallowref10_Into.l1, if_pos (by omega), if_pos (by omega), rd36 l i hlt, rtimes l[i].f2 (z2 i hlt) x _ (by have := hM i hlt; omega), Option.bind_some, w64 (i := (i : Int) + 1) (by omega) (by omega), hc, wadd, ← allRefs_step l i hlt]
    exact hn
def intoTo (l : List S36) (n : Nat) : List Int := (List.range n).map fun (i : Nat) => cnt (allRefs l) ((i : Int) + 1)
theorem rinto0 (l : List S36) (hz : sizesB l = true) (M : Nat) (hM : ∀ (i : Nat) (h : i < l.length), 2 * l[i].f2.length + 5 ≤ M) (s : Nat) (e : Nat) : ∀ (n : Nat), l.length - n = e → n ≤ l.length →
    tallowref10_Into.l0 (M + s + e * (l.length + 2) + 1) (intoTo l n) ((n : Int) + 1) l = some (intoTo l l.length) := by
  obtain ⟨z1, z2⟩ := sizes_at hz
  induction e with
  | zero =>
    intro n hd hi
    have hii : n = l.length := by omega
    subst hii
    rw [tallowref10_Into.l0, if_neg (by omega)]
  | succ e ih =>
    intro n hd hi
    have hn := ih (n + 1) (by omega) (by omega)
    have hk : M + s + (e + 1) * (l.length + 2) + 1 = (M + s + e * (l.length + 2) + 1) + l.length + 1 + 1 := by rw [Nat.succ_mul]; omega
    have h1 := rinto1 l hz M hM (intoTo l n) ((n : Int) + 1) (M + s + e * (l.length + 2) + 1) (by omega) l.length 0 (by omega) (by omega)
    have c0 : cnt (allRefs (l.take 0)) ((n : Int) + 1) = 0 := by simp [allRefs, cnt, wrap64]
    rw [c0] at h1
    rw [hk, tallowref10_Into.l0, if_pos (by omega)]
    have hlen : (intoTo l n).length = n := by simp [intoTo]
    have hs : intoTo l n ++ [cnt (allRefs l) ((n : Int) + 1)] = intoTo l (n + 1) := by unfold intoTo; rw [List.range_succ, List.map_append]; simp
    have hc : ((n + 1 : Nat) : Int) = (n : Int) + 1 := by omega
    rw [hc] at hn
    refine h1.trans ?_
    rw [if_pos (by omega), hs, w64 (i := (n : Int) + 1 + 1) (by omega) (by omega), hn]
theorem rinto (l : List S36) (hz : sizesB l = true) (M : Nat) (hM : ∀ (i : Nat) (h : i < l.length), 2 * l[i].f2.length + 5 ≤ M) (k : Nat) (hk : M + l.length + l.length * (l.length + 2) + 1 ≤ k) : tallowref10_Into.f k l = some (intoL l) := by
  unfold tallowref10_Into.f intoL
  have h2 : 0 ≤ l.length * (l.length + 2) := Nat.zero_le _
  rw [rcheck l hz M hM k (by omega), Option.bind_some]
  by_cases hc : checkB l = true
  · rw [if_pos hc, if_pos hc]
    have h := rinto0 l hz M hM (k - (M + l.length * (l.length + 2) + 1)) l.length 0 (by omega) (by omega)
    have e : M + (k - (M + l.length * (l.length + 2) + 1)) + l.length * (l.length + 2) + 1 = k := by omega
    rw [e] at h
    simpa [intoTo] using h
  · rw [if_neg hc, if_neg hc]
theorem rints_from (xs : List Int) (hl : xs.length ≤ 17592186044416) (d : Nat) : ∀ (k i : Nat), xs.length - i = d → i ≤ xs.length → d < k → tallowref02_Ints.l0 k xs xs i = some true := by
  induction d with
  | zero =>
    intro k i hd hi hk
    obtain ⟨k, rfl⟩ : ∃ m, k = m + 1 := ⟨k - 1, by omega⟩
    rw [tallowref02_Ints.l0, if_neg (by omega)]
  | succ d ih =>
    intro k i hd hi hk
    obtain ⟨k, rfl⟩ : ∃ m, k = m + 1 := ⟨k - 1, by omega⟩
    have hc : ((i : Int) + 1) = ((i + 1 : Nat) : Int) := by omega
    rw [tallowref02_Ints.l0, if_pos (by omega), if_pos (by omega), if_pos (by omega), if_pos rfl, w64 (by omega) (by omega), hc]
    exact ih k (i + 1) (by omega) (by omega) (by omega)
theorem rints (xs : List Int) (hl : xs.length ≤ 17592186044416) (k : Nat) (hk : xs.length < k) : tallowref02_Ints.f k xs xs = some true := by
  unfold tallowref02_Ints.f
  rw [if_pos rfl]
  exact rints_from xs hl xs.length k 0 (by omega) (by omega) hk
theorem intoL_len (l : List S36) : (intoL l).length ≤ l.length := intoL_le l
theorem rexact_from (l : List S36) (hz : sizesB l = true) (more : List S40) (hm : more.length ≤ 8796093022208) (d : Nat) : ∀ (k i : Nat), (intoL l).length - i = d → i ≤ (intoL l).length → more.length + d + 2 < k →
    tallowref10_Exact.l0 k more (exTo l more i) (intoL l) i l = some (exactL l more) := by
  obtain ⟨z1, z2⟩ := sizes_at hz
  have hil := intoL_le l
  induction d with
  | zero =>
    intro k i hd hi hk
    obtain ⟨k, rfl⟩ : ∃ m, k = m + 1 := ⟨k - 1, by omega⟩
    have hii : i = (intoL l).length := by omega
    subst hii
    rw [tallowref10_Exact.l0, if_neg (by omega)]
    rfl
  | succ d ih =>
    intro k i hd hi hk
    obtain ⟨k, rfl⟩ : ∃ m, k = m + 1 := ⟨k - 1, by omega⟩
    have hn := ih k (i + 1) (by omega) (by omega) (by omega)
    have hc : ((i : Int) + 1) = ((i + 1 : Nat) : Int) := by omega
    have hxl := exTo_le l more i
    rw [tallowref10_Exact.l0, if_pos (by omega), if_pos (by omega), if_pos (by omega), w64 (i := (i : Int) + 1) (by omega) (by omega), rtimes more hm _ k (by omega), Option.bind_some]
    have hrd : rd (intoL l) (i : Int) = (intoL l).getD i 0 := rfl
    by_cases h0 : (rd_T36 l (i : Int)).f0 = 0
    · have hb : exB l more i = false := by unfold exB; simp [h0]
      rw [if_pos h0]
      rw [exTo_no hb] at hn
      rw [hc]; exact hn
    · rw [if_neg h0]
      by_cases h1 : (rd_T36 l (i : Int)).f1 = wrap64 (rd (intoL l) (i : Int) + cnt (refsL more) ((i : Int) + 1))
      · have hb : exB l more i = false := by unfold exB; rw [← hrd, ← h1]; simp
        rw [if_pos h1]
        rw [exTo_no hb] at hn
        rw [hc]; exact hn
      · have hb : exB l more i = true := by
          unfold exB; rw [← hrd]; simp only [Bool.and_eq_true, Bool.not_eq_true', beq_eq_false_iff_ne]; exact ⟨h0, h1⟩
        rw [if_neg h1, if_pos (by omega)]
        rw [exTo_yes hb] at hn
        rw [hc] at hn ⊢; exact hn
theorem rexact (l : List S36) (hz : sizesB l = true) (more : List S40) (hm : more.length ≤ 8796093022208) (M : Nat) (hM : ∀ (i : Nat) (h : i < l.length), 2 * l[i].f2.length + 5 ≤ M) (k : Nat) (hk : M + l.length + l.length * (l.length + 2) + more.length + 3 ≤ k) : tallowref10_Exact.f k l more = some (exactL l more) := by
  unfold tallowref10_Exact.f
  have h2 : 0 ≤ l.length * (l.length + 2) := Nat.zero_le _
  have hil := intoL_le l
  rw [rinto l hz M hM k (by omega), Option.bind_some]
  have := rexact_from l hz more hm (intoL l).length k 0 (by omega) (by omega) (by omega)
  simpa [exTo] using this
theorem cnt_mem (xs : List Int) (x : Int) (hl : xs.length ≤ 17592186044416) : decide (cnt xs x > 0) = xs.contains x := by
  have h := List.count_le_length (a := x) (l := xs)
  unfold cnt
  rw [w64 (by omega) (by omega)]
  by_cases hm : x ∈ xs
  · have := List.count_pos_iff.2 hm
    have e : xs.contains x = true := by simpa using hm
    rw [e, decide_eq_true_eq]; omega
  · have := List.count_eq_zero.2 hm
    have e : xs.contains x = false := by simpa using hm
    rw [e, this]; simp
theorem rholders_from (l : List S36) (hz : sizesB l = true) (x : Int) (M : Nat) (hM : ∀ (i : Nat) (h : i < l.length), 2 * l[i].f2.length + 5 ≤ M) (d : Nat) : ∀ (k i : Nat), l.length - i = d → i ≤ l.length → M + d < k →
    tallowref10_Holders.l0 k x (holdTo l x i) i l = some (holdTo l x l.length) := by
  obtain ⟨z1, z2⟩ := sizes_at hz
  induction d with
  | zero =>
    intro k i hd hi hk
    obtain ⟨k, rfl⟩ : ∃ m, k = m + 1 := ⟨k - 1, by omega⟩
    have hii : i = l.length := by omega
    subst hii
    rw [tallowref10_Holders.l0, if_neg (by omega)]
  | succ d ih =>
    intro k i hd hi hk
    obtain ⟨k, rfl⟩ : ∃ m, k = m + 1 := ⟨k - 1, by omega⟩
    have hlt : i < l.length := by omega
    have hn := ih k (i + 1) (by omega) (by omega) (by omega)
    have hc : ((i : Int) + 1) = ((i + 1 : Nat) : Int) := by omega
    have hxl := holdTo_le l x i
    have hM' := hM i hlt
    have hz2 := z2 i hlt
    have hrl := refsL_le l[i].f2
    have hcm := cnt_mem (refsL l[i].f2) x (by omega)
    rw [tallowref10_Holders.l0, if_pos (by omega), if_pos (by omega), rd36 l i hlt, rtimes l[i].f2 hz2 x k (by omega), Option.bind_some, w64 (i := (i : Int) + 1) (by omega) (by omega)]
    cases hb : (refsL l[i].f2).contains x
    · have hb' : holdB l x i = false := by unfold holdB; rw [rd36 l i hlt]; exact hb
      rw [hb] at hcm
      rw [if_neg (of_decide_eq_false hcm)]
      rw [holdTo_no hb'] at hn
      rw [hc]; exact hn
    · have hb' : holdB l x i = true := by unfold holdB; rw [rd36 l i hlt]; exact hb
      rw [hb] at hcm
      rw [if_pos (of_decide_eq_true hcm), if_pos (by omega)]
      rw [holdTo_yes hb'] at hn
      rw [hc] at hn ⊢; exact hn
theorem rholders (l : List S36) (hz : sizesB l = true) (x : Int) (M : Nat) (hM : ∀ (i : Nat) (h : i < l.length), 2 * l[i].f2.length + 5 ≤ M) (k : Nat) (hk : M + l.length < k) : tallowref10_Holders.f k l x = some (holdL l x) := by
  unfold tallowref10_Holders.f holdL
  rw [rcheck l hz M hM k hk, Option.bind_some]
  by_cases hc : checkB l = true
  · rw [if_pos hc, if_pos hc]
    have := rholders_from l hz x M hM l.length k 0 (by omega) (by omega) hk
    simpa [holdTo] using this
  · rw [if_neg hc, if_neg hc]
theorem exactL_le (l : List S36) (more : List S40) : (exactL l more).length ≤ l.length := Nat.le_trans (exTo_le l more _) (intoL_le l)
theorem holdL_le (l : List S36) (x : Int) : (holdL l x).length ≤ l.length := by
  unfold holdL
  by_cases hc : checkB l = true
  · rw [if_pos hc]; exact holdTo_le _ _ _
  · rw [if_neg hc]; simp
end Go.Proofs.Ytlpieciihlgdiaa.G
