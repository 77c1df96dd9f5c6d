import Derived.LaidMore
import Derived.LaidHandle
import Derived.Stop.Joined
import Derived.Lib.IfaceEq
import Derived.Lib.ItoaLen
import Derived.Shelf.Strings.MapGrows
import Derived.Shelf.Abstract
import Derived.LaidEql
import Derived.Stop.Asserts
import Derived.RowKitTokens
import Derived.Lib.LaidTab
import Derived.Lib.AppendIntMem
import Derived.Stop.LaidErr
import Derived.WalkKit
import Derived.Deep.RegionLaw
import Derived.Deep.Cut
import Derived.WalkSpells
import Derived.Test.YtnombbcgdfgadaaDoorPBaZB
import Derived.Lib.Hide
set_option linter.unusedVariables false
set_option linter.unusedSimpArgs false
section
namespace Go.Proofs.YtnombbcgdfgadaaDoor.G
open Go.Shelf Go.Extern.Stop Go.Stop Go.Extern Go.RowKit Go.Proofs.YtnombbcgdfgadaaDoorW.PrintWords Go.Proofs.YtnombbcgdfgadaaDoorW.PrintLast Go.Proofs.YtnombbcgdfgadaaDoorW.PrintMore
set_option linter.unusedVariables false
set_option linter.unusedSimpArgs false
theorem head_app {a b : List UInt8} (h : a ≠ []) : (a ++ b).head? = a.head? := by
  cases a with
  | nil => exact absurd rfl h
  | cons x r => rfl
theorem dv_snoc (l : List UInt8) : ∀ (acc : Nat) (c : UInt8), dv acc (l ++ [c]) = dv acc l * 10 + (c.toNat - 48) := by
  induction l with
  | nil => intro acc c; rfl
  | cons x r ih => intro acc c; exact ih _ c
theorem toNat_ofNat {n : Nat} (h : n < 256) : (UInt8.ofNat n).toNat = n := by
  rw [UInt8.toNat_ofNat']; omega
theorem dec_snoc {u : Nat} (h : ¬ u < 10) : Lib.decDigits u = Lib.decDigits (u / 10) ++ [UInt8.ofNat (48 + u % 10)] := by
  conv => lhs; rw [Lib.decDigits, dif_neg h]
theorem dec_ne (u : Nat) : Lib.decDigits u ≠ [] := by
  intro e
  have h1 := Lib.decDigits_length u
  rw [e] at h1
  have := Lib.nDigits_pos u
  simp at h1; omega
theorem dec_Dl (u : Nat) : Dl (Lib.decDigits u) := by
  induction u using Nat.strongRecOn with
  | _ u ih =>
    intro c hc
    by_cases h : u < 10
    · rw [Lib.decDigits_one h] at hc
      rw [List.mem_singleton.1 hc, toNat_ofNat (by omega)]; omega
    · rw [dec_snoc h] at hc
      rcases List.mem_append.1 hc with hc | hc
      · exact ih (u / 10) (by omega) c hc
      · rw [List.mem_singleton.1 hc, toNat_ofNat (by omega)]; omega
theorem dec_dv (u : Nat) : dv 0 (Lib.decDigits u) = u := by
  induction u using Nat.strongRecOn with
  | _ u ih =>
    by_cases h : u < 10
    · rw [Lib.decDigits_one h]
      show 0 * 10 + ((UInt8.ofNat (48 + u)).toNat - 48) = u
      rw [toNat_ofNat (by omega)]; omega
    · rw [dec_snoc h, dv_snoc, ih (u / 10) (by omega), toNat_ofNat (by omega)]; omega
theorem dec_head {u : Nat} (hu : 0 < u) : (Lib.decDigits u).head? ≠ some 48 := by
  induction u using Nat.strongRecOn with
  | _ u ih =>
    by_cases h : u < 10
    · rw [Lib.decDigits_one h, List.head?_cons]
      intro e
      have := congrArg UInt8.toNat (Option.some.inj e)
      rw [toNat_ofNat (by omega)] at this
      have h48 : (48 : UInt8).toNat = 48 := rfl
      omega
    · rw [dec_snoc h, head_app (dec_ne _)]
      exact ih (u / 10) (by omega) (by omega)
theorem dec_of (l : List UInt8) (hD : Dl l) (hne : l ≠ []) (hz : l.head? = some 48 → l = [48]) : Lib.decDigits (dv 0 l) = l := by
  generalize hn : l.length = n
  induction n generalizing l with
  | zero => exact absurd (List.length_eq_zero_iff.mp hn) hne
  | succ n ih =>
    obtain ⟨m, c, rfl⟩ : ∃ m c, l = m ++ [c] := ⟨l.dropLast, l.getLast hne, (List.dropLast_concat_getLast hne).symm⟩
    have hc := hD c (List.mem_append_right _ (List.mem_singleton.2 rfl))
    have hDm : Dl m := fun d hd => hD d (List.mem_append_left _ hd)
    have hco : UInt8.ofNat (48 + (c.toNat - 48)) = c := by
      rw [show 48 + (c.toNat - 48) = c.toNat from by omega]; exact UInt8.ofNat_toNat
    rw [dv_snoc]
    cases m with
    | nil =>
      show Lib.decDigits (0 * 10 + (c.toNat - 48)) = [c]
      rw [Lib.decDigits_one (by omega), Nat.zero_mul, Nat.zero_add, hco]
    | cons x r =>
      have hx : x ≠ 48 := by
        intro e
        have := hz (by rw [e]; rfl)
        have := congrArg List.length this
        simp at this
      have hmd : Lib.decDigits (dv 0 (x :: r)) = x :: r := ih (x :: r) hDm (by simp) (fun e => absurd (Option.some.inj e) hx) (by simpa using hn)
      have hpos : 0 < dv 0 (x :: r) := by
        have hxx := hDm x (List.mem_cons_self ..)
        have hx2 : x.toNat ≠ 48 := fun e => hx (UInt8.toNat_inj.1 e)
        have := dv_ge r (0 * 10 + (x.toNat - 48))
        show 0 < dv (0 * 10 + (x.toNat - 48)) r
        omega
      generalize dv 0 (x :: r) = v at *
      rw [dec_snoc (by omega), show (v * 10 + (c.toNat - 48)) / 10 = v from by omega, show (v * 10 + (c.toNat - 48)) % 10 = c.toNat - 48 from by omega, hmd, hco]
theorem all_Dl {l : List UInt8} (h : Dl l) : (l.all fun c => decide (48 ≤ c.toNat ∧ c.toNat ≤ 57)) = true := by
  rw [List.all_eq_true]; intro c hc; exact decide_eq_true (h c hc)
theorem read_itoa {n : Int} (hn : -9223372036854775808 ≤ n ∧ n < 9223372036854775808) : readL (Lib.itoa n) = (n, 0) := by
  unfold Lib.itoa
  by_cases h : n < 0
  · rw [if_pos h]
    unfold readL
    simp only
    have em : magL (45 :: Lib.decDigits n.natAbs) = Lib.decDigits n.natAbs := rfl
    have en : negL (45 :: Lib.decDigits n.natAbs) = true := rfl
    rw [em, en, if_neg (dec_ne _), if_neg (fun e => dec_head (by omega) e.1), if_neg (fun e => e (all_Dl (dec_Dl _))), dec_dv, if_neg (by rintro (⟨_, h'⟩ | ⟨h', _⟩); omega; cases h'), if_pos rfl]
    congr 1; omega
  · rw [if_neg h]
    have hD := dec_Dl n.toNat
    have hnn := dec_ne n.toNat
    have em : magL (Lib.decDigits n.toNat) = Lib.decDigits n.toNat := by
      cases hl : Lib.decDigits n.toNat with
      | nil => rfl
      | cons c r =>
        have := hD c (by rw [hl]; exact List.mem_cons_self ..)
        show (if c.toNat = 45 then r else c :: r) = _
        rw [if_neg (by omega)]
    have en : negL (Lib.decDigits n.toNat) = false := by
      cases hl : Lib.decDigits n.toNat with
      | nil => rfl
      | cons c r =>
        have := hD c (by rw [hl]; exact List.mem_cons_self ..)
        show decide (c.toNat = 45) = false
        exact decide_eq_false (by omega)
    unfold readL
    simp only
    rw [em, en, if_neg hnn, if_neg (by
      rintro ⟨h1, h2⟩
      by_cases h0 : 0 < n.toNat
      · exact dec_head h0 h1
      · apply h2
        rw [show n.toNat = 0 from by omega, Lib.decDigits_one (by decide)]; rfl), if_neg (fun e => e (all_Dl hD)), dec_dv, if_neg (by rintro (⟨h', _⟩ | ⟨_, h'⟩); cases h'; omega), if_neg (by decide)]
    congr 1; omega
theorem read_back {l : List UInt8} {w : Int} (h : readL l = (w, 0)) : Lib.itoa w = l ∧ -9223372036854775808 ≤ w ∧ w < 9223372036854775808 := by
  unfold readL at h
  simp only at h
  by_cases h0 : magL l = []
  · rw [if_pos h0] at h; exact absurd (Prod.mk.inj h).2 (by decide)
  rw [if_neg h0] at h
  by_cases h1 : (magL l).head? = some 48 ∧ l ≠ [48]
  · rw [if_pos h1] at h; exact absurd (Prod.mk.inj h).2 (by decide)
  rw [if_neg h1] at h
  by_cases h2 : ((magL l).all fun c => decide (48 ≤ c.toNat ∧ c.toNat ≤ 57)) = true
  case neg => rw [if_pos h2] at h; exact absurd (Prod.mk.inj h).2 (by decide)
  rw [if_neg (fun e => e h2)] at h
  have hD : Dl (magL l) := fun c hc => of_decide_eq_true (List.all_eq_true.1 h2 c hc)
  by_cases h3 : (negL l = true ∧ 9223372036854775808 < dv 0 (magL l)) ∨ (negL l = false ∧ 9223372036854775808 ≤ dv 0 (magL l))
  · rw [if_pos h3] at h; exact absurd (Prod.mk.inj h).2 (by decide)
  rw [if_neg h3] at h
  have hw := (Prod.mk.inj h).1
  cases l with
  | nil => exact absurd rfl h0
  | cons c r =>
    by_cases hc : c.toNat = 45
    · have em : magL (c :: r) = r := if_pos hc
      have en : negL (c :: r) = true := decide_eq_true hc
      rw [em] at h0 h1 hD h3 hw
      rw [en] at h3 hw
      rw [if_pos rfl] at hw
      have hc45 : c = 45 := UInt8.toNat_inj.1 hc
      have hd := dec_of r hD h0 (fun e => absurd ⟨e, fun e2 => by have := (List.cons.inj e2).1; rw [hc45] at this; exact absurd this (by decide)⟩ h1)
      have hle : dv 0 r ≤ 9223372036854775808 := Nat.le_of_not_lt (fun hh => h3 (.inl ⟨rfl, hh⟩))
      have hpos : 0 < dv 0 r := by
        rcases Nat.eq_zero_or_pos (dv 0 r) with e | e
        · exfalso
          rw [e, Lib.decDigits_one (by decide)] at hd
          exact h1 ⟨by rw [← hd]; rfl, fun e2 => by have := (List.cons.inj e2).1; rw [hc45] at this; exact absurd this (by decide)⟩
        · exact e
      generalize dv 0 r = v at *
      refine ⟨?_, by omega, by omega⟩
      unfold Lib.itoa
      rw [if_pos (by omega), show w.natAbs = v from by omega, hd, hc45]
    · have em : magL (c :: r) = c :: r := if_neg hc
      have en : negL (c :: r) = false := decide_eq_false hc
      rw [em] at h0 h1 hD h3 hw
      rw [en] at h3 hw
      rw [if_neg (by decide)] at hw
      have hd := dec_of (c :: r) hD h0 (fun e => Classical.byContradiction fun e2 => h1 ⟨e, e2⟩)
      have hle : dv 0 (c :: r) < 9223372036854775808 := Nat.lt_of_not_le (fun hh => h3 (.inr ⟨rfl, hh⟩))
      generalize dv 0 (c :: r) = v at *
      refine ⟨?_, by omega, by omega⟩
      unfold Lib.itoa
      rw [if_neg (by omega), show w.toNat = v from by omega, hd]
end Go.Proofs.YtnombbcgdfgadaaDoor.G
end
