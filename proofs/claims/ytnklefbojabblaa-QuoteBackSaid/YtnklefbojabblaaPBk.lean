import Derived.Test.YtnklefbojabblaaPB
import Derived.Test.YtnklefbojabblaaGxF5
namespace Go.Proofs.Ytnklefbojabblaa.Z
open Go.RowKit Go.Proofs.Ytnklefbojabblaa.G Go.Proofs.Ytnklefbojabblaa.H Go.Proofs.YtnklefbojabblaaW.PrintWords Go.Proofs.YtnklefbojabblaaW.PrintLast Go.Proofs.YtnklefbojabblaaW.PrintMore
set_option linter.unusedVariables false
set_option linter.unusedSimpArgs false
theorem bt_pre (pre : List UInt8) (b : UInt8) (rest : List UInt8) : bt ⟨(pre ++ b :: rest).toArray⟩ (pre.length : Int) = b.toNat := by
  have h : pre.length < (⟨(pre ++ b :: rest).toArray⟩ : ByteArray).size := by rw [sz_arr]; simp
  rw [bt_nat _ _ h]
  have : (⟨(pre ++ b :: rest).toArray⟩ : ByteArray)[pre.length]'h = b := by
    show ((pre ++ b :: rest).toArray)[pre.length]'(by simp) = b
    simp
  rw [this]
theorem run1 (pre : List UInt8) (b : UInt8) (rest : List UInt8) (e : Bool) (k : Nat) (hsz : (pre ++ b :: rest).length < 70368744177664) (h0 : 32 ≤ b.toNat) (h1 : b.toNat ≤ 126) (h34 : b = 34 → e = true ∨ pre = [] ∨ rest = []) :
    tallowlaw03_QuoteBack.l0 (k + 2) ⟨(pre ++ b :: rest).toArray⟩ e (pre.length : Int) = tallowlaw03_QuoteBack.l0 k ⟨((pre ++ [b]) ++ rest).toArray⟩ (!e && b == 92) ((pre ++ [b]).length : Int) := by
  have hs : ((⟨(pre ++ b :: rest).toArray⟩ : ByteArray).size : Int) = pre.length + rest.length + 1 := by rw [sz_arr]; simp; omega
  have hx : (pre ++ b :: rest) = (pre ++ [b]) ++ rest := by simp
  have hlen : (pre ++ b :: rest).length = pre.length + rest.length + 1 := by simp; omega
  have hn : ((pre ++ [b]).length : Int) = (pre.length : Int) + 1 := by simp
  rw [tallowlaw03_QuoteBack.l0, hs, bt_pre, if_pos (by omega), if_pos (by omega), if_neg (by omega), decide_eq_false (by omega), tallowlaw03_QuoteBack.j2, if_neg (by decide), if_pos (by omega), hs, bt_pre, if_pos (by omega), w64 _ (by omega) (by omega), w64 _ (by omega) (by omega), hn, ← hx]
  have hkey : (if (b.toNat : Int) = 92 then tallowlaw03_QuoteBack.l0 k ⟨(pre ++ b :: rest).toArray⟩ (!e) ((pre.length : Int) + 1) else tallowlaw03_QuoteBack.l0 k ⟨(pre ++ b :: rest).toArray⟩ false ((pre.length : Int) + 1)) = tallowlaw03_QuoteBack.l0 k ⟨(pre ++ b :: rest).toArray⟩ (!e && b == 92) ((pre.length : Int) + 1) := by
    by_cases h92 : b = 92
    · subst h92; rw [if_pos (by decide)]; simp
    · have : ¬ (b.toNat : Int) = 92 := fun h => h92 (by apply UInt8.toNat_inj.mp; have h34 : (92 : UInt8).toNat = 92 := rfl; omega)
      rw [if_neg this, beq_eq_false_iff_ne.mpr h92]; simp
  by_cases hb : b = 34
  · have hb' : (b.toNat : Int) = 34 := by rw [hb]; rfl
    have hb2 : ¬ (b.toNat : Int) = 92 := by omega
    rw [if_neg hb2] at hkey
    rw [if_pos hb', if_neg hb2, ← hkey]
    rcases h34 hb with he | hp | hr
    · subst he; rw [if_pos rfl]
    · subst hp
      rw [if_neg (show ¬ ((([] : List UInt8).length : Int) > 0) by simp)]
      by_cases he : e = true
      · rw [if_pos he]
      · rw [if_neg he]
    · subst hr
      by_cases he : e = true
      · rw [if_pos he]
      · rw [if_neg he, if_neg (show ¬ (pre.length : Int) < (pre.length : Int) + (([] : List UInt8).length : Int) + 1 - 1 by simp)]
        split <;> rfl
  · have hb' : ¬ (b.toNat : Int) = 34 := fun h => hb (by apply UInt8.toNat_inj.mp; have h34 : (34 : UInt8).toNat = 34 := rfl; omega)
    rw [if_neg hb', hkey]
theorem hexd_plain (n : Nat) (h : n < 16) : 48 ≤ (hexd n).toNat ∧ (hexd n).toNat ≤ 102 ∧ hexd n ≠ 34 ∧ hexd n ≠ 92 := by
  have : ∀ i : Fin 16, 48 ≤ (hexd i.val).toNat ∧ (hexd i.val).toNat ≤ 102 ∧ hexd i.val ≠ 34 ∧ hexd i.val ≠ 92 := by decide +kernel
  exact this ⟨n, h⟩
theorem runq (pre : List UInt8) (hp : pre ≠ []) (c : UInt8) (rest : List UInt8) (k : Nat) (hsz : (pre ++ (qbyte c ++ rest)).length < 70368744177664) :
    tallowlaw03_QuoteBack.l0 (k + 2 * (qbyte c).length) ⟨(pre ++ (qbyte c ++ rest)).toArray⟩ false (pre.length : Int) = tallowlaw03_QuoteBack.l0 k ⟨((pre ++ qbyte c) ++ rest).toArray⟩ false ((pre ++ qbyte c).length : Int) := by
  cases e : short c.toNat with
  | some x =>
    have hq : qbyte c = [92, UInt8.ofNat x.toNat] := by unfold qbyte; rw [e]
    have hx := short_byte e
    rw [hq] at hsz ⊢
    have h2 : (pre ++ ([92, UInt8.ofNat x.toNat] ++ rest)).length = pre.length + rest.length + 2 := by simp; omega
    have hxr : 32 ≤ (UInt8.ofNat x.toNat).toNat ∧ (UInt8.ofNat x.toNat).toNat ≤ 126 := by
      unfold short at e
      repeat' split at e
      all_goals first | (cases e; decide) | cases e
    have r1 := run1 pre 92 (UInt8.ofNat x.toNat :: rest) false (k + 2) (by rw [← h2] at *; simpa using hsz) (by decide) (by decide) (fun h => absurd h (by decide))
    have r2 := run1 (pre ++ [92]) (UInt8.ofNat x.toNat) rest true k (by simp at hsz ⊢; omega) hxr.1 hxr.2 (fun _ => .inl rfl)
    have s1 : tallowlaw03_QuoteBack.l0 (k + 2 * ([92, UInt8.ofNat x.toNat] : List UInt8).length) ⟨(pre ++ ([92, UInt8.ofNat x.toNat] ++ rest)).toArray⟩ false (pre.length : Int) = tallowlaw03_QuoteBack.l0 (k + 2 + 2) ⟨(pre ++ 92 :: UInt8.ofNat x.toNat :: rest).toArray⟩ false (pre.length : Int) := rfl
    rw [s1, r1]
    have s2 : (!false && (92 : UInt8) == 92) = true := rfl
    rw [s2, r2]
    simp
  | none =>
    have h34 : c ≠ 34 := fun h => by rw [h, show short ((34 : UInt8).toNat : Int) = some 34 from rfl] at e; cases e
    have h92 : c ≠ 92 := fun h => by rw [h, show short ((92 : UInt8).toNat : Int) = some 92 from rfl] at e; cases e
    by_cases hr : c.toNat < 32 ∨ 126 < c.toNat
    · have hc := c.toNat_lt
      have hq : qbyte c = [92, 120, hexd (c.toNat / 16), hexd (c.toNat % 16)] := by unfold qbyte; rw [e]; exact if_pos hr
      have p1 := hexd_plain (c.toNat / 16) (by omega)
      have p2 := hexd_plain (c.toNat % 16) (by omega)
      rw [hq] at hsz ⊢
      generalize hexd (c.toNat / 16) = d1 at *
      generalize hexd (c.toNat % 16) = d2 at *
      have hl : (pre ++ ([92, 120, d1, d2] ++ rest)).length = pre.length + rest.length + 4 := by simp; omega
      have r1 := run1 pre 92 (120 :: d1 :: d2 :: rest) false (k + 6) (by simp at hsz ⊢; omega) (by decide) (by decide) (fun h => absurd h (by decide))
      have r2 := run1 (pre ++ [92]) 120 (d1 :: d2 :: rest) true (k + 4) (by simp at hsz ⊢; omega) (by decide) (by decide) (fun _ => .inl rfl)
      have r3 := run1 (pre ++ [92] ++ [120]) d1 (d2 :: rest) false (k + 2) (by simp at hsz ⊢; omega) (by omega) (by omega) (fun h => absurd h p1.2.2.1)
      have r4 := run1 (pre ++ [92] ++ [120] ++ [d1]) d2 rest false k (by simp at hsz ⊢; omega) (by omega) (by omega) (fun h => absurd h p2.2.2.1)
      have s1 : tallowlaw03_QuoteBack.l0 (k + 2 * ([92, 120, d1, d2] : List UInt8).length) ⟨(pre ++ ([92, 120, d1, d2] ++ rest)).toArray⟩ false (pre.length : Int) = tallowlaw03_QuoteBack.l0 (k + 6 + 2) ⟨(pre ++ 92 :: 120 :: d1 :: d2 :: rest).toArray⟩ false (pre.length : Int) := rfl
      rw [s1, r1, show (!false && (92 : UInt8) == 92) = true from rfl, r2, show (!true && (120 : UInt8) == 92) = false from rfl, r3, beq_eq_false_iff_ne.mpr p1.2.2.2, show (!false && false) = false from rfl, r4, beq_eq_false_iff_ne.mpr p2.2.2.2, show (!false && false) = false from rfl]
      simp
    · have hq : qbyte c = [c] := by unfold qbyte; rw [e]; exact if_neg hr
      rw [hq] at hsz ⊢
      have r1 := run1 pre c rest false k (by simpa using hsz) (by omega) (by omega) (fun h => absurd h h34)
      rw [beq_eq_false_iff_ne.mpr h92] at r1
      exact r1
theorem runs : ∀ (t : List UInt8) (pre : List UInt8) (k : Nat), pre ≠ [] → (pre ++ (t.flatMap qbyte ++ [34])).length < 70368744177664 → 2 * (t.flatMap qbyte).length + 3 ≤ k →
    tallowlaw03_QuoteBack.l0 k ⟨(pre ++ (t.flatMap qbyte ++ [34])).toArray⟩ false (pre.length : Int) = some true
  | [], pre, k, hp, hsz, hk => by
    obtain ⟨k, rfl⟩ : ∃ k', k = k' + 1 + 2 := ⟨k - 3, by omega⟩
    have r := run1 pre 34 [] false (k + 1) (by simpa using hsz) (by decide) (by decide) (fun _ => .inr (.inr rfl))
    have s1 : (pre ++ (([] : List UInt8).flatMap qbyte ++ [34])) = pre ++ 34 :: [] := rfl
    rw [s1, r, tallowlaw03_QuoteBack.l0, if_neg (by rw [sz_arr]; simp), works_ok]
    rfl
  | c :: t, pre, k, hp, hsz, hk => by
    rw [List.flatMap_cons, List.append_assoc] at hsz ⊢
    rw [List.flatMap_cons, List.length_append] at hk
    obtain ⟨k, rfl⟩ : ∃ k', k = k' + 2 * (qbyte c).length := ⟨k - 2 * (qbyte c).length, by omega⟩
    rw [runq pre hp c _ k hsz]
    rw [← List.append_assoc] at hsz
    exact runs t (pre ++ qbyte c) k (by simp [hp]) hsz (by omega)
theorem quoteBack : tallowlaw03_QuoteBack.Pure := by
  intro a0 _
  refine ⟨100000, ?_⟩
  have hm := mn_le (a0.size : Int) 6000
  have hs := cut_size a0 6000
  unfold tallowlaw03_QuoteBack.f
  rw [if_pos (hm.2.2 (by omega) (by decide)), if_pos hm.1]
  have e : ((6000 : Nat) : Int) = 6000 := rfl
  rw [e] at hs
  generalize a0.extract 0 (mn (a0.size : Int) 6000).toNat = s at hs ⊢
  rw [quote_some s (by omega), Option.bind_some]
  have hq := qtext_len s
  by_cases h4 : s.size ≤ 4096
  · rw [back_ok s h4, Option.bind_some, if_neg (by omega)]
    show (if (0 : Int) = 0 then (if s.toList = s.toList then tallowlaw03_QuoteBack.j0 100000 ⟨(qtext s).toArray⟩ (decide (((⟨(qtext s).toArray⟩ : ByteArray).size : Int) < 2)) else _) else _) = _
    rw [if_pos rfl, if_pos rfl, decide_eq_false (by rw [sz_arr]; omega), tallowlaw03_QuoteBack.j0, if_neg (by decide)]
    have hf := qflat_length s.data.toList
    have e2 : s.data.toList.length = s.size := Array.length_toList
    have e3 : qtext s = [] ++ 34 :: (s.data.toList.flatMap qbyte ++ [34]) := rfl
    have hl : (qtext s).length = (s.data.toList.flatMap qbyte).length + 2 := by rw [e3]; simp
    have r := run1 [] 34 (s.data.toList.flatMap qbyte ++ [34]) false 99997 (by rw [← e3]; omega) (by decide) (by decide) (fun _ => .inr (.inl rfl))
    rw [e3]
    refine r.trans ?_
    exact runs s.data.toList ([] ++ [34]) 99997 (by simp) (by simp only [List.length_append, List.length_cons, List.length_nil]; omega) (by omega)
  · rw [back_long s h4 (by omega), Option.bind_some, if_pos (by omega)]
    show (if (3 : Int) = 3 then (if (⟨#[]⟩ : ByteArray).toList = [] then _ else _) else _) = _
    rw [if_pos rfl, if_pos (by decide +kernel), works_ok]
    rfl
end Go.Proofs.Ytnklefbojabblaa.Z
