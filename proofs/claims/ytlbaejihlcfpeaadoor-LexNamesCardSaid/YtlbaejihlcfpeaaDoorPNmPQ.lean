import Derived.LaidMore
import Derived.LaidHandle
import Derived.Stop.Joined
import Derived.Lib.IfaceEq
import Derived.Lib.IndexMore
import Derived.Shelf.Abstract
import Derived.LaidEql
import Derived.Stop.Asserts
import Derived.RowKitTokens
import Derived.Lib.LaidTab
import Derived.Lib.AppendIntMem
import Derived.Stop.LaidErr
import Derived.WalkKit
import Derived.Deep.RegionLaw
import Derived.Deep.Cut
import Derived.WalkSpells
import Derived.Maps.OwnOps
import Derived.Maps.OwnSet
import Derived.Maps.Views
import Derived.Maps.RangeWalk
import Derived.Maps.Own
import Derived.Test.YtlbaejihlcfpeaaDoorPNmPZ
import Derived.Test.YtlbaejihlcfpeaaDoorPNmLX
import Derived.Test.YtlbaejihlcfpeaaDoorPNmUQ
import Derived.Lib.Hide
set_option linter.unusedVariables false
set_option linter.unusedSimpArgs false
section
namespace Go.Proofs.YtlbaejihlcfpeaaDoor.Z
open Go.Proofs.YtlbaejihlcfpeaaDoor.G Go.Proofs.YtlbaejihlcfpeaaDoor.H
open Go.Shelf Go.Extern.Stop Go.Stop Go.Extern Go.RowKit Go.Proofs.YtlbaejihlcfpeaaDoorW.PrintWords Go.Proofs.YtlbaejihlcfpeaaDoorW.PrintLast Go.Proofs.YtlbaejihlcfpeaaDoorW.PrintMore
set_option linter.unusedVariables false
set_option linter.unusedSimpArgs false
theorem trim_le (q : ByteArray) : (⟨(Lib.trimSuffix (Lib.trimPrefix q.data.toList [34]) [34]).toArray⟩ : ByteArray).size ≤ q.size := by
  rw [sz_arr]
  have e : q.data.toList.length = q.size := Array.length_toList
  have h1 : (Lib.trimPrefix q.data.toList [34]).length ≤ q.data.toList.length := by
    unfold Lib.trimPrefix
    split
    · rw [List.length_drop]; omega
    · omega
  have h2 : ∀ l : List UInt8, (Lib.trimSuffix l [34]).length ≤ l.length := by
    intro l
    unfold Lib.trimSuffix
    split
    · exact List.length_take_le' _ _
    · omega
  have := h2 (Lib.trimPrefix q.data.toList [34])
  omega
theorem unquote_any (q : ByteArray) (hq : q.size < 70368744177664) : ∃ p, quote_Unquote.f q = some p := by
  cases h : quote_Unquote.f q with
  | some p => exact ⟨p, rfl⟩
  | none =>
    exfalso
    unfold quote_Unquote.f at h
    rw [if_pos (by omega)] at h
    unfold unquote.f at h
    split at h
    · rw [unq_eq _ _ _ ?_ ?_] at h
      · cases h
      · have := trim_le q
        omega
      · have := trim_le q
        simp
        omega
    · cases h
theorem qtext_len (s : ByteArray) : (qtext s).length ≤ 4 * s.size + 2 ∧ 2 ≤ (qtext s).length := by
  unfold qtext
  have := qflat_length s.data.toList
  have e : s.data.toList.length = s.size := Array.length_toList
  simp only [List.length_append, List.length_cons, List.length_nil]
  omega
theorem back (s : ByteArray) (h : s.size ≤ 1000000) : quote_Unquote.f ⟨(qtext s).toArray⟩ = some (fin (bnums s.data.toList)) := by
  have hl := qtext_len s
  unfold quote_Unquote.f
  rw [sz_arr, if_pos (by omega)]
  exact unquote_q _ s (by omega) (by omega)
theorem back_ok (s : ByteArray) (h : s.size ≤ 4096) : quote_Unquote.f ⟨(qtext s).toArray⟩ = some (s, 0) := by
  rw [back s (by omega), fin_nums _ (by rw [Array.length_toList]; exact h)]
theorem ustep_len {u : ByteArray} {c n : Int} (h : ustep u = some (c, n)) : ((qbyte (UInt8.ofNat c.toNat)).length : Int) ≤ n := by
  unfold ustep at h
  have r0 := bt_range u 0
  by_cases cA : bt u 0 < 32 ∨ bt u 0 > 126 ∨ bt u 0 = 34 ∨ (bt u 0 = 92 ∧ u.size < 2)
  · rw [if_pos cA] at h; cases h
  rw [if_neg cA] at h
  by_cases cC : bt u 0 = 92
  · rw [if_pos cC] at h
    by_cases cD : bt u 1 = 120
    · rw [if_pos cD] at h
      by_cases cE : u.size < 4 ∨ digitD (bt u 2) < 0 ∨ digitD (bt u 3) < 0
      · rw [if_pos cE] at h; cases h
      · rw [if_neg cE] at h
        cases h
        have := qbyte_length (UInt8.ofNat (digitD (bt u 2) * 16 + digitD (bt u 3)).toNat)
        omega
    · rw [if_neg cD] at h
      cases hl : longOf (bt u 1) with
      | none => rw [hl] at h; cases h
      | some x =>
        rw [hl] at h
        cases h
        unfold longOf at hl
        repeat' split at hl
        all_goals first | (cases hl; decide) | cases hl
  · rw [if_neg cC] at h
    cases h
    have hn : (UInt8.ofNat (bt u 0).toNat).toNat = (bt u 0).toNat := by
      rw [UInt8.toNat_ofNat']; omega
    have hsh : short ((UInt8.ofNat (bt u 0).toNat).toNat : Int) = none := by
      rw [hn]; unfold short; rw [if_neg (by omega), if_neg (by omega), if_neg (by omega), if_neg (by omega)]
    unfold qbyte
    rw [hsh]
    simp only []
    rw [if_neg (by rw [hn]; omega)]
    exact Int.le_refl _
theorem dec_len : ∀ (k : Nat) (u : ByteArray) (l : List Int), dec k u = some l → ((l.map fun c => UInt8.ofNat c.toNat).flatMap qbyte).length ≤ u.size
  | 0, u, l, h => by cases h
  | k + 1, u, l, h => by
    unfold dec at h
    by_cases h0 : u.size = 0
    · rw [if_pos h0] at h; cases h; simp
    · rw [if_neg h0] at h
      cases hs : ustep u with
      | none => rw [hs] at h; cases h
      | some p =>
        obtain ⟨c, n⟩ := p
        rw [hs] at h
        have h' : (dec k (u.extract n.toNat u.size)).map (c :: ·) = some l := h
        cases hd : dec k (u.extract n.toNat u.size) with
        | none => rw [hd] at h'; cases h'
        | some l2 =>
          rw [hd] at h'
          cases h'
          have hb := ustep_bounds h0 hs
          have hl := ustep_len hs
          have ih := dec_len k _ _ hd
          rw [ByteArray.size_extract] at ih
          rw [List.map_cons, List.flatMap_cons, List.length_append]
          omega
theorem trim_two (L : List UInt8) (h1 : Lib.hasPrefix L [34] = true) (h2 : Lib.hasSuffix (Lib.trimPrefix L [34]) [34] = true) : (Lib.trimSuffix (Lib.trimPrefix L [34]) [34]).length + 2 ≤ L.length := by
  unfold Lib.trimSuffix
  rw [if_pos h2]
  have e : Lib.trimPrefix L [34] = L.drop 1 := by unfold Lib.trimPrefix; rw [if_pos h1]; rfl
  rw [e] at h2 ⊢
  have hs : [34] <:+ L.drop 1 := by rw [← List.isSuffixOf_iff_suffix]; exact h2
  have := hs.length_le
  simp only [List.length_drop, List.length_cons, List.length_nil] at this
  rw [List.length_take, List.length_drop]
  simp only [List.length_cons, List.length_nil]
  omega
theorem unquote_read (q : ByteArray) (hq : q.size < 70368744177664) (s : ByteArray) (e : Int) (h : quote_Unquote.f q = some (s, e)) : (e = 0 → s.size ≤ 4096 ∧ (qtext s).length ≤ q.size) ∧ (e ≠ 0 → s = ⟨#[]⟩) := by
  unfold quote_Unquote.f at h
  rw [if_pos (by omega)] at h
  unfold unquote.f at h
  by_cases hps : Lib.hasPrefix q.data.toList [34] = true ∧ Lib.hasSuffix (Lib.trimPrefix q.data.toList [34]) [34] = true
  · rw [if_pos hps] at h
    have ht := trim_two _ hps.1 hps.2
    have hql : q.data.toList.length = q.size := Array.length_toList
    rw [unq_eq _ _ _ (by rw [sz_arr]; omega) (by rw [sz_arr]; simp; omega)] at h
    have h' := Option.some.inj h
    clear h
    unfold decE at h'
    cases hd : dec (q.size + 1) ⟨(Lib.trimSuffix (Lib.trimPrefix q.data.toList [34]) [34]).toArray⟩ with
    | none =>
      rw [hd] at h'
      obtain ⟨rfl, rfl⟩ := Prod.mk.inj h'
      exact ⟨fun h => absurd h (by decide), fun _ => rfl⟩
    | some l =>
      rw [hd] at h'
      have hl := dec_len _ _ _ hd
      rw [sz_arr] at hl
      have h2 : fin l = (s, e) := h'
      unfold fin at h2
      by_cases h4 : l.length > 4096
      · rw [if_pos h4] at h2
        obtain ⟨rfl, rfl⟩ := Prod.mk.inj h2
        exact ⟨fun h => absurd h (by decide), fun _ => rfl⟩
      · rw [if_neg h4] at h2
        obtain ⟨rfl, rfl⟩ := Prod.mk.inj h2
        refine ⟨fun _ => ⟨by rw [strOfNums_size]; omega, ?_⟩, fun h => absurd rfl h⟩
        unfold qtext
        rw [strOfNums_data]
        simp only [List.length_append, List.length_cons, List.length_nil]
        omega
  · rw [if_neg hps] at h
    obtain ⟨rfl, rfl⟩ := Prod.mk.inj (Option.some.inj h)
    exact ⟨fun h => absurd h (by decide), fun _ => rfl⟩
theorem hexd_plain (n : Nat) (h : n < 16) : 48 ≤ (hexd n).toNat ∧ (hexd n).toNat ≤ 102 ∧ hexd n ≠ 34 ∧ hexd n ≠ 92 := by
  have : ∀ i : Fin 16, 48 ≤ (hexd i.val).toNat ∧ (hexd i.val).toNat ≤ 102 ∧ hexd i.val ≠ 34 ∧ hexd i.val ≠ 92 := by decide +kernel
  exact this ⟨n, h⟩
def qbL (s : ByteArray) : List UInt8 := s.data.toList.flatMap qbyte
def unqL (u : List UInt8) : ByteArray × Int := if u.length < 70368744177664 then (quote_Unquote.f ⟨u.toArray⟩).getD (⟨#[]⟩, 4) else (⟨#[]⟩, 4)
theorem unqL_eq {q : ByteArray} (hq : q.size < 70368744177664) : quote_Unquote.f q = some (unqL q.data.toList) := by
  obtain ⟨p, hp⟩ := unquote_any q hq
  have e : (⟨q.data.toList.toArray⟩ : ByteArray) = q := by cases q; simp
  unfold unqL
  rw [if_pos (by rw [Array.length_toList]; exact hq), e, hp]
  rfl
theorem qend_plain {c : UInt8} (h10 : c ≠ 10) (h34 : c ≠ 34) (h92 : c ≠ 92) (r : List UInt8) : qend (c :: r) = (qend r).map (· + 1) := by
  conv => lhs; unfold qend
  rw [if_neg h10, if_neg h34, if_neg h92]
theorem qend_esc {d : UInt8} (h : d ≠ 10) (r : List UInt8) : qend (92 :: d :: r) = (qend r).map (· + 2) := by
  conv => lhs; unfold qend
  rw [if_neg (by decide), if_neg (by decide), if_pos rfl]
  show (if d = 10 then none else (qend r).map (· + 2)) = _
  rw [if_neg h]
theorem qend_byte (c : UInt8) (r : List UInt8) : qend (qbyte c ++ r) = (qend r).map (· + (qbyte c).length) := by
  cases e : short c.toNat with
  | some x =>
    have hq : qbyte c = [92, UInt8.ofNat x.toNat] := by unfold qbyte; rw [e]
    have hx : (UInt8.ofNat x.toNat) ≠ 10 := by
      unfold short at e
      repeat' split at e
      all_goals first | (cases e; decide) | cases e
    rw [hq]
    exact qend_esc hx r
  | none =>
    have h34 : c ≠ 34 := fun h => by rw [h, show short ((34 : UInt8).toNat : Int) = some 34 from rfl] at e; cases e
    have h92 : c ≠ 92 := fun h => by rw [h, show short ((92 : UInt8).toNat : Int) = some 92 from rfl] at e; cases e
    by_cases hr : c.toNat < 32 ∨ 126 < c.toNat
    · have hc := c.toNat_lt
      have hq : qbyte c = [92, 120, hexd (c.toNat / 16), hexd (c.toNat % 16)] := by unfold qbyte; rw [e]; exact if_pos hr
      have p1 := hexd_plain (c.toNat / 16) (by omega)
      have p2 := hexd_plain (c.toNat % 16) (by omega)
      rw [hq]
      generalize hexd (c.toNat / 16) = d1 at *
      generalize hexd (c.toNat % 16) = d2 at *
      have n1 : d1 ≠ 10 := fun h => by subst h; exact absurd p1.1 (by decide)
      have n2 : d2 ≠ 10 := fun h => by subst h; exact absurd p2.1 (by decide)
      show qend (92 :: 120 :: d1 :: d2 :: r) = _
      rw [qend_esc (by decide), qend_plain n1 p1.2.2.1 p1.2.2.2, qend_plain n2 p2.2.2.1 p2.2.2.2]
      cases qend r <;> rfl
    · have hq : qbyte c = [c] := by unfold qbyte; rw [e]; exact if_neg hr
      have h10 : c ≠ 10 := fun h => by subst h; exact hr (.inl (by decide))
      rw [hq]
      exact qend_plain h10 h34 h92 r
theorem qend_all : ∀ (l r : List UInt8), qend (l.flatMap qbyte ++ 34 :: r) = some (l.flatMap qbyte).length
  | [], r => by
    rw [List.flatMap_nil, List.nil_append]
    unfold qend
    rw [if_neg (by decide), if_pos rfl]; rfl
  | c :: l, r => by
    rw [List.flatMap_cons, List.append_assoc, qend_byte, qend_all l r, List.length_append]
    show some ((l.flatMap qbyte).length + (qbyte c).length) = some _
    congr 1; omega
theorem qtext_eq (s : ByteArray) : (34 :: (qbL s ++ [34])) = qtext s := by unfold qbL qtext; simp
theorem quotesOk : QOk unqL qbL := by
  refine ⟨fun s r => qend_all _ r, fun s hs => ?_, fun q t h => ?_⟩
  · have hl := qtext_len s
    unfold unqL
    rw [qtext_eq, if_pos (by omega), back_ok s hs]
    rfl
  · unfold unqL at h
    by_cases hq : q.length < 70368744177664
    · rw [if_pos hq] at h
      have hsz : (⟨q.toArray⟩ : ByteArray).size = q.length := by rw [sz_arr]
      obtain ⟨p, hp⟩ := unquote_any ⟨q.toArray⟩ (by rw [hsz]; exact hq)
      rw [hp] at h
      have h : p = (t, 0) := h
      subst h
      have := (unquote_read ⟨q.toArray⟩ (by rw [hsz]; exact hq) t 0 hp).1 rfl
      rw [hsz, ← qtext_eq] at this
      simp only [List.length_cons, List.length_append, List.length_nil] at this
      exact ⟨this.1, by omega⟩
    · rw [if_neg hq] at h; cases h
end Go.Proofs.YtlbaejihlcfpeaaDoor.Z
end
