import Derived.LaidMore
import Derived.LaidHandle
import Derived.Stop.Joined
import Derived.Lib.IfaceEq
import Derived.Lib.IndexMore
import Derived.Shelf.Abstract
import Derived.LaidEql
import Derived.Stop.Asserts
import Derived.RowKitTokens
import Derived.Lib.LaidTab
import Derived.Lib.AppendIntMem
import Derived.Stop.LaidErr
import Derived.WalkKit
import Derived.Deep.RegionLaw
import Derived.Deep.Cut
import Derived.WalkSpells
import Derived.Maps.OwnOps
import Derived.Maps.OwnSet
import Derived.Maps.Views
import Derived.Maps.RangeWalk
import Derived.Maps.Own
import Derived.Test.YtlbaejihlcfpeaaDoorPNmQ4
import Derived.Lib.Hide
set_option linter.unusedVariables false
set_option linter.unusedSimpArgs false
section
namespace Go.Proofs.YtlbaejihlcfpeaaDoor.H
open Go.Shelf Go.Extern.Stop Go.Stop Go.Extern Go.RowKit Go.Proofs.YtlbaejihlcfpeaaDoorW.PrintWords Go.Proofs.YtlbaejihlcfpeaaDoorW.PrintLast Go.Proofs.YtlbaejihlcfpeaaDoorW.PrintMore
set_option linter.unusedVariables false
set_option linter.unusedSimpArgs false
theorem ustep_bounds {u : ByteArray} (h0 : u.size ≠ 0) {c n : Int} (h : ustep u = some (c, n)) : 1 ≤ n ∧ n ≤ u.size ∧ 0 ≤ c ∧ c ≤ 255 := by
  unfold ustep at h
  have r0 := bt_range u 0
  by_cases cA : bt u 0 < 32 ∨ bt u 0 > 126 ∨ bt u 0 = 34 ∨ (bt u 0 = 92 ∧ u.size < 2)
  · rw [if_pos cA] at h; cases h
  rw [if_neg cA] at h
  by_cases cC : bt u 0 = 92
  · rw [if_pos cC] at h
    by_cases cD : bt u 1 = 120
    · rw [if_pos cD] at h
      by_cases cE : u.size < 4 ∨ digitD (bt u 2) < 0 ∨ digitD (bt u 3) < 0
      · rw [if_pos cE] at h; cases h
      · rw [if_neg cE] at h
        have d2 := digitD_lt (bt u 2)
        have d3 := digitD_lt (bt u 3)
        cases h
        omega
    · rw [if_neg cD] at h
      cases hl : longOf (bt u 1) with
      | none => rw [hl] at h; cases h
      | some x =>
        rw [hl] at h
        cases h
        unfold longOf at hl
        refine ⟨by omega, by omega, ?_⟩
        repeat' split at hl
        all_goals first | (cases hl; decide) | cases hl
  · rw [if_neg cC] at h
    cases h
    omega
def dec : Nat → ByteArray → Option (List Int)
  | 0, _ => none
  | k + 1, u => if u.size = 0 then some [] else match ustep u with
    | none => none
    | some (c, n) => (dec k (u.extract n.toNat u.size)).map (c :: ·)
def fin (l : List Int) : ByteArray × Int := if l.length > 4096 then (⟨#[]⟩, 3) else (strOfNums l, 0)
def decE (k : Nat) (u : ByteArray) (acc : List Int) : ByteArray × Int := match dec k u with
  | none => (⟨#[]⟩, 4)
  | some l => fin (acc ++ l)
theorem unq_eq : ∀ (k : Nat) (u : ByteArray) (acc : List Int), u.size < k → acc.length + u.size < 140737488355328 → unq k u acc = some (decE k u acc)
  | 0, u, acc, h, _ => absurd h (Nat.not_lt_zero _)
  | k + 1, u, acc, h, hl => by
    unfold unq decE dec
    by_cases h0 : u.size = 0
    · rw [if_pos h0, if_pos h0]
      simp only [List.append_nil, fin]
      split <;> rfl
    · rw [if_neg h0, if_neg h0]
      cases hs : ustep u with
      | none => rfl
      | some p =>
        obtain ⟨c, n⟩ := p
        have hb := ustep_bounds h0 hs
        have e : (u.extract n.toNat u.size).size = u.size - n.toNat := by rw [ByteArray.size_extract]; omega
        have hn : 1 ≤ n.toNat := by omega
        show (if acc.length < 140737488355328 then unq k (u.extract n.toNat u.size) (acc ++ [c]) else none) = _
        rw [if_pos (by omega), unq_eq k _ _ (by omega) (by rw [e]; simp; omega)]
        unfold decE
        cases hd : dec k (u.extract n.toNat u.size) with
        | none => simp [hd]
        | some l => simp [hd]
theorem bt0 (a : UInt8) (l : List UInt8) : bt ⟨(a :: l).toArray⟩ 0 = a.toNat := by
  unfold bt
  rw [dif_pos (show (0 : Int).toNat < (⟨(a :: l).toArray⟩ : ByteArray).size by show 0 < (a :: l).toArray.size; simp)]
  rfl
theorem bt1 (a b : UInt8) (l : List UInt8) : bt ⟨(a :: b :: l).toArray⟩ 1 = b.toNat := by
  unfold bt
  rw [dif_pos (show (1 : Int).toNat < (⟨(a :: b :: l).toArray⟩ : ByteArray).size by show 1 < (a :: b :: l).toArray.size; simp)]
  rfl
theorem bt2 (a b c : UInt8) (l : List UInt8) : bt ⟨(a :: b :: c :: l).toArray⟩ 2 = c.toNat := by
  unfold bt
  rw [dif_pos (show (2 : Int).toNat < (⟨(a :: b :: c :: l).toArray⟩ : ByteArray).size by show 2 < (a :: b :: c :: l).toArray.size; simp)]
  rfl
theorem bt3 (a b c d : UInt8) (l : List UInt8) : bt ⟨(a :: b :: c :: d :: l).toArray⟩ 3 = d.toNat := by
  unfold bt
  rw [dif_pos (show (3 : Int).toNat < (⟨(a :: b :: c :: d :: l).toArray⟩ : ByteArray).size by show 3 < (a :: b :: c :: d :: l).toArray.size; simp)]
  rfl
theorem sz_arr (l : List UInt8) : (⟨l.toArray⟩ : ByteArray).size = l.length := by show l.toArray.size = _; simp
theorem digit_hex (n : Nat) (h : n < 16) : digitD (hexd n).toNat = n := by
  have : ∀ i : Fin 16, digitD (hexd i.val).toNat = i.val := by decide +kernel
  exact this ⟨n, h⟩
theorem ustep_q (c : UInt8) (rest : List UInt8) : ustep ⟨(qbyte c ++ rest).toArray⟩ = some ((c.toNat : Int), ((qbyte c).length : Int)) := by
  have hc := c.toNat_lt
  cases e : short c.toNat with
  | some x =>
    have hq : qbyte c = [92, UInt8.ofNat x.toNat] := by unfold qbyte; rw [e]
    rw [hq]
    have hx := short_byte e
    have hl := long_of_short e
    unfold ustep
    have e0 : bt ⟨(([92, UInt8.ofNat x.toNat] : List UInt8) ++ rest).toArray⟩ 0 = 92 := bt0 _ _
    have e1 : bt ⟨(([92, UInt8.ofNat x.toNat] : List UInt8) ++ rest).toArray⟩ 1 = x := (bt1 _ _ _).trans hx.symm
    have es : (⟨(([92, UInt8.ofNat x.toNat] : List UInt8) ++ rest).toArray⟩ : ByteArray).size = rest.length + 2 := sz_arr _
    rw [e0, e1, es, if_neg (by omega), if_pos rfl]
    have hx120 : x ≠ 120 := fun h => by rw [h, show longOf 120 = none from rfl] at hl; cases hl
    rw [if_neg hx120, hl]
    rfl
  | none =>
    by_cases hr : c.toNat < 32 ∨ 126 < c.toNat
    · have hq : qbyte c = [92, 120, hexd (c.toNat / 16), hexd (c.toNat % 16)] := by unfold qbyte; rw [e]; exact if_pos hr
      rw [hq]
      unfold ustep
      have e0 : bt ⟨(([92, 120, hexd (c.toNat / 16), hexd (c.toNat % 16)] : List UInt8) ++ rest).toArray⟩ 0 = 92 := bt0 _ _
      have e1 : bt ⟨(([92, 120, hexd (c.toNat / 16), hexd (c.toNat % 16)] : List UInt8) ++ rest).toArray⟩ 1 = 120 := bt1 _ _ _
      have e2 : bt ⟨(([92, 120, hexd (c.toNat / 16), hexd (c.toNat % 16)] : List UInt8) ++ rest).toArray⟩ 2 = (hexd (c.toNat / 16)).toNat := bt2 _ _ _ _
      have e3 : bt ⟨(([92, 120, hexd (c.toNat / 16), hexd (c.toNat % 16)] : List UInt8) ++ rest).toArray⟩ 3 = (hexd (c.toNat % 16)).toNat := bt3 _ _ _ _ _
      have es : (⟨(([92, 120, hexd (c.toNat / 16), hexd (c.toNat % 16)] : List UInt8) ++ rest).toArray⟩ : ByteArray).size = rest.length + 4 := sz_arr _
      rw [e0, e1, e2, e3, es, if_neg (by omega), if_pos rfl, if_pos rfl, digit_hex _ (by omega), digit_hex _ (by omega), if_neg (by omega)]
      simp only [Option.some.injEq, Prod.mk.injEq]
      refine ⟨by omega, rfl⟩
    · have hq : qbyte c = [c] := by unfold qbyte; rw [e]; exact if_neg hr
      rw [hq]
      unfold ustep
      have e0 : bt ⟨(([c] : List UInt8) ++ rest).toArray⟩ 0 = c.toNat := bt0 _ _
      have h34 : c.toNat ≠ 34 := fun h => by rw [h] at e; cases e
      have h92 : c.toNat ≠ 92 := fun h => by rw [h] at e; cases e
      rw [e0, if_neg (by omega), if_neg (by omega)]
      rfl
theorem extract_app (a b : List UInt8) (n : Nat) (hn : n = a.length) : (⟨(a ++ b).toArray⟩ : ByteArray).extract n (⟨(a ++ b).toArray⟩ : ByteArray).size = ⟨b.toArray⟩ := by
  subst hn
  apply ByteArray.ext
  rw [ByteArray.data_extract]
  apply Array.toList_inj.mp
  rw [Array.toList_extract]
  simp [ByteArray.size, List.extract]
def bnums (s : List UInt8) : List Int := s.map fun b => (b.toNat : Int)
theorem qbyte_pos (c : UInt8) : 1 ≤ (qbyte c).length := by
  unfold qbyte
  split
  · simp
  · split <;> simp
theorem dec_q : ∀ (s : List UInt8) (k : Nat), (s.flatMap qbyte).length < k → dec k ⟨(s.flatMap qbyte).toArray⟩ = some (bnums s)
  | [], k + 1, _ => by unfold dec; rfl
  | s, 0, h => absurd h (Nat.not_lt_zero _)
  | c :: s, k + 1, h => by
    have hp := qbyte_pos c
    rw [List.flatMap_cons] at h ⊢
    rw [List.length_append] at h
    unfold dec
    rw [if_neg (by rw [sz_arr, List.length_append]; omega), ustep_q]
    show (dec k ((⟨(qbyte c ++ s.flatMap qbyte).toArray⟩ : ByteArray).extract ((qbyte c).length : Int).toNat _)).map _ = _
    rw [extract_app _ _ _ (by simp), dec_q s k (by omega)]
    rfl
theorem fin_nums (s : List UInt8) (h : s.length ≤ 4096) : fin (bnums s) = (⟨s.toArray⟩, 0) := by
  unfold fin
  rw [if_neg (by simp [bnums]; omega)]
  unfold strOfNums bnums
  rw [List.map_map]
  congr 3
  have : (fun n : Int => UInt8.ofNat n.toNat) ∘ (fun b : UInt8 => (b.toNat : Int)) = id := by
    funext b; simp
  rw [this, List.map_id]
theorem unquote_in (k : Nat) (m : List UInt8) (h : m.length < k) (hl : m.length < 140737488355328) : unquote.f k ⟨(34 :: m ++ [34]).toArray⟩ = some (decE k ⟨m.toArray⟩ []) := by
  unfold unquote.f
  have e1 : Lib.hasPrefix (34 :: m ++ [34]) [34] = true := by simp [Lib.hasPrefix, List.isPrefixOf]
  have e2 : Lib.trimPrefix (34 :: m ++ [34]) [34] = m ++ [34] := by unfold Lib.trimPrefix; rw [if_pos e1]; rfl
  have e3 : Lib.hasSuffix (m ++ [34]) [34] = true := by unfold Lib.hasSuffix; rw [List.isSuffixOf_iff_suffix]; exact List.suffix_append _ _
  have e4 : Lib.trimSuffix (m ++ [34]) [34] = m := by unfold Lib.trimSuffix; rw [if_pos e3]; simp
  show (if Lib.hasPrefix (34 :: m ++ [34]) [34] = true ∧ Lib.hasSuffix (Lib.trimPrefix (34 :: m ++ [34]) [34]) [34] = true then unq k ⟨(Lib.trimSuffix (Lib.trimPrefix (34 :: m ++ [34]) [34]) [34]).toArray⟩ [] else _) = _
  rw [e2, e4, if_pos ⟨e1, e3⟩, unq_eq k _ _ (by rw [sz_arr]; exact h) (by rw [sz_arr]; simpa using hl)]
theorem unquote_q (k : Nat) (s : ByteArray) (h : (qtext s).length ≤ k) (hl : (qtext s).length < 140737488355328) : unquote.f k ⟨(qtext s).toArray⟩ = some (fin (bnums s.data.toList)) := by
  have e : (qtext s).length = (s.data.toList.flatMap qbyte).length + 2 := by unfold qtext; simp
  unfold qtext
  rw [unquote_in k _ (by omega) (by omega)]
  unfold decE
  rw [dec_q _ k (by omega)]
  rfl
end Go.Proofs.YtlbaejihlcfpeaaDoor.H
end
