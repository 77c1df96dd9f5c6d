import Derived.LaidMore
import Derived.LaidHandle
import Derived.Stop.Joined
import Derived.Lib.IfaceEq
import Derived.Lib.IndexMore
import Derived.Shelf.Abstract
import Derived.LaidEql
import Derived.Stop.Asserts
import Derived.RowKitTokens
import Derived.Lib.LaidTab
import Derived.Lib.AppendIntMem
import Derived.Stop.LaidErr
import Derived.WalkKit
import Derived.Deep.RegionLaw
import Derived.Deep.Cut
import Derived.WalkSpells
import Derived.Maps.OwnOps
import Derived.Maps.OwnSet
import Derived.Maps.Views
import Derived.Maps.RangeWalk
import Derived.Maps.Own
import Derived.Test.YtlbaejihlcfpeaaDoorPNmQN
import Derived.Lib.Hide
set_option linter.unusedVariables false
set_option linter.unusedSimpArgs false
section
namespace Go.Proofs.YtlbaejihlcfpeaaDoor.G
open Go.Proofs.YtlbaejihlcfpeaaDoor.G
open Go.Shelf Go.Extern.Stop Go.Stop Go.Extern Go.RowKit Go.Proofs.YtlbaejihlcfpeaaDoorW.PrintWords Go.Proofs.YtlbaejihlcfpeaaDoorW.PrintLast Go.Proofs.YtlbaejihlcfpeaaDoorW.PrintMore
set_option linter.unusedVariables false
set_option linter.unusedSimpArgs false
def dv (acc : Nat) : List UInt8 → Nat
  | [] => acc
  | c :: r => dv (acc * 10 + (c.toNat - 48)) r
theorem dv_ge : ∀ (l : List UInt8) (acc : Nat), acc ≤ dv acc l
  | [], acc => Nat.le_refl _
  | c :: r, acc => Nat.le_trans (by omega) (dv_ge r _)
def Dl (l : List UInt8) : Prop := ∀ c ∈ l, 48 ≤ c.toNat ∧ c.toNat ≤ 57
theorem parseM_eq (M : Nat) (h1M : 18446744073709551610 ≤ M) (h2M : M < 18446744073709551620) (l : List UInt8) : ∀ (acc : Nat), Dl l → acc ≤ M → Lib.parseUintM M acc l = if dv acc l ≤ M then .ok (dv acc l) else .range := by
  induction l with
  | nil => intro acc _ ha; rw [show dv acc [] = acc from rfl, if_pos ha]; rfl
  | cons c r ih =>
    intro acc h ha
    have h1 := h c (List.mem_cons_self ..)
    have hr : Dl r := fun d hd => h d (List.mem_cons_of_mem _ hd)
    have hg := dv_ge r (acc * 10 + (c.toNat - 48))
    unfold Lib.parseUintM
    rw [if_pos h1, show dv acc (c :: r) = dv (acc * 10 + (c.toNat - 48)) r from rfl]
    by_cases h2 : 1844674407370955162 ≤ acc
    · rw [if_pos h2, if_neg (by omega)]
    rw [if_neg h2]
    by_cases h3 : M < acc * 10 + (c.toNat - 48)
    · rw [if_pos h3, if_neg (by omega)]
    rw [if_neg h3]
    exact ih _ hr (by omega)
def negL (l : List UInt8) : Bool := match l with | [] => false | c :: _ => decide (c.toNat = 45)
def magL (l : List UInt8) : List UInt8 := match l with | [] => [] | c :: r => if c.toNat = 45 then r else c :: r
theorem parseI_eq (l : List UInt8) (hd : Dl (magL l)) (hne : magL l ≠ []) :
    (match Lib.parseIntB 64 l with | .ok v => ((v, 0) : Int × Int) | _ => (0, 15)) =
      if (negL l = true ∧ 9223372036854775808 < dv 0 (magL l)) ∨ (negL l = false ∧ 9223372036854775808 ≤ dv 0 (magL l)) then (0, 15) else (if negL l = true then -(dv 0 (magL l) : Int) else (dv 0 (magL l) : Int), 0) := by
  cases l with
  | nil => exact absurd rfl hne
  | cons c r =>
    have em : (if c.toNat = 43 ∨ c.toNat = 45 then r else c :: r) = magL (c :: r) := by
      show _ = if c.toNat = 45 then r else c :: r
      by_cases h : c.toNat = 45
      · rw [if_pos (.inr h), if_pos h]
      · have hm : magL (c :: r) = c :: r := if_neg h
        rw [hm] at hd
        have := hd c (List.mem_cons_self ..)
        rw [if_neg (by omega), if_neg h]
    unfold Lib.parseIntB
    simp only
    rw [em]
    have e1 : Lib.parseUintB 64 (magL (c :: r)) = if dv 0 (magL (c :: r)) ≤ 18446744073709551615 then .ok (dv 0 (magL (c :: r))) else .range := by
      unfold Lib.parseUintB
      rw [if_neg hne]
      exact parseM_eq (2 ^ 64 - 1) (by decide) (by decide) _ 0 hd (Nat.zero_le _)
    rw [e1]
    have en : negL (c :: r) = decide (c.toNat = 45) := rfl
    rw [en]
    generalize dv 0 (magL (c :: r)) = n
    by_cases hb : n ≤ 18446744073709551615
    · rw [if_pos hb]
      simp only
      by_cases hc : c.toNat = 45
      · simp only [hc, decide_true, not_true, false_and, if_false, true_and, if_true, Bool.true_eq_false, or_false]
        by_cases h2 : 9223372036854775808 < n
        · rw [if_pos h2, if_pos h2]
        · rw [if_neg h2, if_neg h2]
      · simp only [hc, decide_false, not_false_eq_true, true_and, if_false, false_and, Bool.false_eq_true, false_or]
        by_cases h2 : 9223372036854775808 ≤ n
        · rw [if_pos h2, if_pos h2]
        · rw [if_neg h2, if_neg h2]
    · rw [if_neg hb]
      simp only
      by_cases hc : c.toNat = 45
      · rw [if_pos (.inl ⟨by simpa using hc, by omega⟩)]
      · rw [if_pos (.inr ⟨by simpa using hc, by omega⟩)]
theorem trim_mag (s : ByteArray) : (trimD s).data.toList = magL s.data.toList := by
  rw [trim_data]; cases s.data.toList <;> rfl
def readL (l : List UInt8) : Int × Int :=
  let p := magL l
  if p = [] then (0, 4) else if p.head? = some 48 ∧ l ≠ [48] then (0, 4) else if ¬ (p.all fun c => decide (48 ≤ c.toNat ∧ c.toNat ≤ 57)) = true then (0, 4)
  else if (negL l = true ∧ 9223372036854775808 < dv 0 p) ∨ (negL l = false ∧ 9223372036854775808 ≤ dv 0 p) then (0, 15) else (if negL l = true then -(dv 0 p : Int) else (dv 0 p : Int), 0)
theorem size_list (p : ByteArray) : p.size = p.data.toList.length := by rw [Array.length_toList]; rfl
theorem bt0 (p : ByteArray) (h : p.size ≠ 0) : bt p 0 = 48 ↔ p.data.toList.head? = some 48 := by
  rw [size_list] at h
  cases hl : p.data.toList with
  | nil => rw [hl] at h; exact absurd rfl h
  | cons c r =>
    have := bt_get p 0 (by rw [hl]; simp)
    rw [show ((0 : Nat) : Int) = 0 from rfl] at this
    rw [this]
    have e : p.data.toList[0]'(by rw [hl]; simp) = c := by simp [hl]
    rw [e, List.head?_cons, Option.some.injEq, ← UInt8.toNat_inj]
    show _ ↔ c.toNat = 48
    omega
theorem allDig_iff (p : ByteArray) : allDig p ↔ (p.data.toList.all fun c => decide (48 ≤ c.toNat ∧ c.toNat ≤ 57)) = true := by
  constructor
  · intro h
    rw [List.all_eq_true]
    intro c hc
    exact decide_eq_true (allDig_mem h c hc)
  · intro h m hm
    rw [List.all_eq_true] at h
    have hm2 : m < p.data.toList.length := by rw [← size_list]; exact hm
    rw [bt_get p m hm2]
    have := of_decide_eq_true (h _ (List.getElem_mem hm2))
    omega
theorem parseF_read (s : ByteArray) : parseF s (trimD s) = readL s.data.toList := by
  unfold parseF readL
  simp only
  have e0 : (trimD s).size = 0 ↔ magL s.data.toList = [] := by rw [size_list, trim_mag, List.length_eq_zero_iff]
  by_cases h0 : (trimD s).size = 0
  · rw [if_pos h0, if_pos (e0.1 h0)]
  rw [if_neg h0, if_neg (fun h => h0 (e0.2 h))]
  have e1 : (bt (trimD s) 0 = 48 ∧ s ≠ ⟨#[48]⟩) ↔ ((magL s.data.toList).head? = some 48 ∧ s.data.toList ≠ [48]) := by
    rw [bt0 _ h0, trim_mag]
    have : s = ⟨#[48]⟩ ↔ s.data.toList = [48] := by
      constructor
      · intro h; rw [h]
      · intro h; apply toList_inj; rw [toList_data, h, ByteArray.toList_mk]
    rw [ne_eq, ne_eq, this]
  by_cases h1 : bt (trimD s) 0 = 48 ∧ s ≠ ⟨#[48]⟩
  · rw [if_pos h1, if_pos (e1.1 h1)]
  rw [if_neg h1, if_neg (fun h => h1 (e1.2 h))]
  have e2 : allDig (trimD s) ↔ ((magL s.data.toList).all fun c => decide (48 ≤ c.toNat ∧ c.toNat ≤ 57)) = true := by rw [allDig_iff, trim_mag]
  by_cases h2 : allDig (trimD s)
  case neg => rw [if_pos h2, if_pos (fun h => h2 (e2.2 h))]
  rw [if_neg (fun h => h h2), if_neg (fun h => h (e2.1 h2))]
  have hD : Dl (magL s.data.toList) := fun c hc => of_decide_eq_true (List.all_eq_true.1 (e2.1 h2) c hc)
  exact parseI_eq s.data.toList hD (fun h => h0 (e0.2 h))
end Go.Proofs.YtlbaejihlcfpeaaDoor.G
end
