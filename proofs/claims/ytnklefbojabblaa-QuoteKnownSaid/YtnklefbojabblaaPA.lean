import Derived.Test.YtnklefbojabblaaPRd
import Derived.Test.YtnklefbojabblaaGxF6
namespace Go.Proofs.Ytnklefbojabblaa.Z
open Go.RowKit Go.Proofs.Ytnklefbojabblaa.G Go.Proofs.Ytnklefbojabblaa.H Go.Proofs.YtnklefbojabblaaW.PrintWords Go.Proofs.YtnklefbojabblaaW.PrintLast Go.Proofs.YtnklefbojabblaaW.PrintMore
set_option linter.unusedVariables false
set_option linter.unusedSimpArgs false
theorem ustep_len {u : ByteArray} {c n : Int} (h : ustep u = some (c, n)) : ((qbyte (UInt8.ofNat c.toNat)).length : Int) ≤ n := by
  unfold ustep at h
  have r0 := bt_range u 0
  by_cases cA : bt u 0 < 32 ∨ bt u 0 > 126 ∨ bt u 0 = 34 ∨ (bt u 0 = 92 ∧ u.size < 2)
  · rw [if_pos cA] at h; cases h
  rw [if_neg cA] at h
  by_cases cC : bt u 0 = 92
  · rw [if_pos cC] at h
    by_cases cD : bt u 1 = 120
    · rw [if_pos cD] at h
      by_cases cE : u.size < 4 ∨ digitD (bt u 2) < 0 ∨ digitD (bt u 3) < 0
      · rw [if_pos cE] at h; cases h
      · rw [if_neg cE] at h
        cases h
        have := qbyte_length (UInt8.ofNat (digitD (bt u 2) * 16 + digitD (bt u 3)).toNat)
        omega
    · rw [if_neg cD] at h
      cases hl : longOf (bt u 1) with
      | none => rw [hl] at h; cases h
      | some x =>
        rw [hl] at h
        cases h
        unfold longOf at hl
        repeat' split at hl
        all_goals first | (cases hl; decide) | cases hl
  · rw [if_neg cC] at h
    cases h
    have hn : (UInt8.ofNat (bt u 0).toNat).toNat = (bt u 0).toNat := by
      rw [UInt8.toNat_ofNat']; omega
    have hsh : short ((UInt8.ofNat (bt u 0).toNat).toNat : Int) = none := by
      rw [hn]; unfold short; rw [if_neg (by omega), if_neg (by omega), if_neg (by omega), if_neg (by omega)]
    unfold qbyte
    rw [hsh]
    simp only []
    rw [if_neg (by rw [hn]; omega)]
    exact Int.le_refl _
theorem dec_len : ∀ (k : Nat) (u : ByteArray) (l : List Int), dec k u = some l → ((l.map fun c => UInt8.ofNat c.toNat).flatMap qbyte).length ≤ u.size
  | 0, u, l, h => by cases h
  | k + 1, u, l, h => by
    unfold dec at h
    by_cases h0 : u.size = 0
    · rw [if_pos h0] at h; cases h; simp
    · rw [if_neg h0] at h
      cases hs : ustep u with
      | none => rw [hs] at h; cases h
      | some p =>
        obtain ⟨c, n⟩ := p
        rw [hs] at h
        have h' : (dec k (u.extract n.toNat u.size)).map (c :: ·) = some l := h
        cases hd : dec k (u.extract n.toNat u.size) with
        | none => rw [hd] at h'; cases h'
        | some l2 =>
          rw [hd] at h'
          cases h'
          have hb := ustep_bounds h0 hs
          have hl := ustep_len hs
          have ih := dec_len k _ _ hd
          rw [ByteArray.size_extract] at ih
          rw [List.map_cons, List.flatMap_cons, List.length_append]
          omega
theorem trim_two (L : List UInt8) (h1 : Lib.hasPrefix L [34] = true) (h2 : Lib.hasSuffix (Lib.trimPrefix L [34]) [34] = true) : (Lib.trimSuffix (Lib.trimPrefix L [34]) [34]).length + 2 ≤ L.length := by
  unfold Lib.trimSuffix
  rw [if_pos h2]
  have e : Lib.trimPrefix L [34] = L.drop 1 := by unfold Lib.trimPrefix; rw [if_pos h1]; rfl
  rw [e] at h2 ⊢
  have hs : [34] <:+ L.drop 1 := by rw [← List.isSuffixOf_iff_suffix]; exact h2
  have := hs.length_le
  simp only [List.length_drop, List.length_cons, List.length_nil] at this
  rw [List.length_take, List.length_drop]
  simp only [List.length_cons, List.length_nil]
  omega
theorem unquote_read (q : ByteArray) (hq : q.size < 70368744177664) (s : ByteArray) (e : Int) (h : quote_Unquote.f q = some (s, e)) : (e = 0 → s.size ≤ 4096 ∧ (qtext s).length ≤ q.size) ∧ (e ≠ 0 → s = ⟨#[]⟩) := by
  unfold quote_Unquote.f at h
  rw [if_pos (by omega)] at h
  unfold unquote.f at h
  by_cases hps : Lib.hasPrefix q.data.toList [34] = true ∧ Lib.hasSuffix (Lib.trimPrefix q.data.toList [34]) [34] = true
  · rw [if_pos hps] at h
    have ht := trim_two _ hps.1 hps.2
    have hql : q.data.toList.length = q.size := Array.length_toList
    rw [unq_eq _ _ _ (by rw [sz_arr]; omega) (by rw [sz_arr]; simp; omega)] at h
    have h' := Option.some.inj h
    clear h
    unfold decE at h'
    cases hd : dec (q.size + 1) ⟨(Lib.trimSuffix (Lib.trimPrefix q.data.toList [34]) [34]).toArray⟩ with
    | none =>
      rw [hd] at h'
      obtain ⟨rfl, rfl⟩ := Prod.mk.inj h'
      exact ⟨fun h => absurd h (by decide), fun _ => rfl⟩
    | some l =>
      rw [hd] at h'
      have hl := dec_len _ _ _ hd
      rw [sz_arr] at hl
      have h2 : fin l = (s, e) := h'
      unfold fin at h2
      by_cases h4 : l.length > 4096
      · rw [if_pos h4] at h2
        obtain ⟨rfl, rfl⟩ := Prod.mk.inj h2
        exact ⟨fun h => absurd h (by decide), fun _ => rfl⟩
      · rw [if_neg h4] at h2
        obtain ⟨rfl, rfl⟩ := Prod.mk.inj h2
        refine ⟨fun _ => ⟨by rw [strOfNums_size]; omega, ?_⟩, fun h => absurd rfl h⟩
        unfold qtext
        rw [strOfNums_data]
        simp only [List.length_append, List.length_cons, List.length_nil]
        omega
  · rw [if_neg hps] at h
    obtain ⟨rfl, rfl⟩ := Prod.mk.inj (Option.some.inj h)
    exact ⟨fun h => absurd h (by decide), fun _ => rfl⟩
theorem toL_inj {a b : ByteArray} (h : a.toList = b.toList) : a = b := by
  rw [Lib.toList_data, Lib.toList_data] at h
  apply ByteArray.ext
  exact Array.toList_inj.mp h
theorem quoteApart : tallowlaw03_QuoteApart.Pure := by
  intro a0 a1 a2 _ _ _
  have hm0 := mn_le (a0.size : Int) 4000
  have hm1 := mn_le (a1.size : Int) 4000
  have hm2 := mn_le (a2.size : Int) 4000
  have hs0 := cut_size a0 4000
  have hs1 := cut_size a1 4000
  have hs2 := cut_size a2 4000
  unfold tallowlaw03_QuoteApart.f
  rw [if_pos (hm0.2.2 (by omega) (by decide)), if_pos hm0.1, if_pos (hm1.2.2 (by omega) (by decide)), if_pos hm1.1, if_pos (hm2.2.2 (by omega) (by decide)), if_pos hm2.1]
  have e : ((4000 : Nat) : Int) = 4000 := rfl
  rw [e] at hs0 hs1 hs2
  generalize a0.extract 0 (mn (a0.size : Int) 4000).toNat = a at hs0 ⊢
  generalize a1.extract 0 (mn (a1.size : Int) 4000).toNat = b at hs1 ⊢
  generalize a2.extract 0 (mn (a2.size : Int) 4000).toNat = q at hs2 ⊢
  rw [quote_some a (by omega), quote_some b (by omega), Option.bind_some, Option.bind_some]
  have hne : ((((⟨(qtext a).toArray⟩ : ByteArray).toList == (⟨(qtext b).toArray⟩ : ByteArray).toList) != (a.toList == b.toList)) = true) = False := by
    apply eq_false
    intro hh
    by_cases hab : a = b
    · subst hab; simp at hh
    · have n1 : (a.toList == b.toList) = false := beq_eq_false_iff_ne.mpr (fun h => hab (toL_inj h))
      have n2 : ((⟨(qtext a).toArray⟩ : ByteArray).toList == (⟨(qtext b).toArray⟩ : ByteArray).toList) = false := beq_eq_false_iff_ne.mpr (fun h => by
        have h1 := back_ok a (by omega)
        have h2 := back_ok b (by omega)
        rw [toL_inj h, h2] at h1
        exact hab (Prod.mk.inj (Option.some.inj h1)).1.symm)
      rw [n1, n2] at hh
      cases hh
  rw [if_neg (fun h => by rw [hne] at h; exact h)]
  obtain ⟨⟨s, er⟩, hp⟩ := unquote_any q (by omega)
  have hr := unquote_read q (by omega) s er hp
  rw [hp, Option.bind_some]
  by_cases h0 : er = 0
  · obtain ⟨h4, hl⟩ := hr.1 h0
    rw [if_pos h0]
    rw [quote_some s (by omega)]
    simp only [Option.bind_some]
    rw [back_ok s h4]
    simp only [Option.bind_some]
    rw [if_pos trivial, if_pos trivial, if_pos (by rw [sz_arr]; omega), works_ok]
    rfl
  · have e0 : (⟨#[]⟩ : ByteArray).toList = [] := by decide +kernel
    rw [if_neg h0, hr.2 h0]
    show (if (⟨#[]⟩ : ByteArray).toList = [] then _ else _) = _
    rw [if_pos e0, works_ok]
    rfl
end Go.Proofs.Ytnklefbojabblaa.Z
