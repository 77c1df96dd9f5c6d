import Derived.LaidMore
import Derived.LaidHandle
import Derived.Stop.Joined
import Derived.Lib.IfaceEq
import Derived.Lib.ItoaLen
import Derived.Shelf.Strings.MapGrows
import Derived.Shelf.Abstract
import Derived.LaidEql
import Derived.Stop.Asserts
import Derived.RowKitTokens
import Derived.Lib.LaidTab
import Derived.Lib.AppendIntMem
import Derived.Stop.LaidErr
import Derived.WalkKit
import Derived.Deep.RegionLaw
import Derived.Deep.Cut
import Derived.WalkSpells
import Derived.Test.YtnombbcgdfgadaaDoorPKnZB
import Derived.Lib.Hide
set_option linter.unusedVariables false
set_option linter.unusedSimpArgs false
section
namespace Go.Proofs.YtnombbcgdfgadaaDoor.G
open Go.Shelf Go.Extern.Stop Go.Stop Go.Extern Go.RowKit Go.Proofs.YtnombbcgdfgadaaDoorW.PrintWords Go.Proofs.YtnombbcgdfgadaaDoorW.PrintLast Go.Proofs.YtnombbcgdfgadaaDoorW.PrintMore
set_option linter.unusedVariables false
set_option linter.unusedSimpArgs false
theorem head_app {a b : List UInt8} (h : a ≠ []) : (a ++ b).head? = a.head? := by
  cases a with
  | nil => exact absurd rfl h
  | cons x r => rfl
theorem dv_snoc (l : List UInt8) : ∀ (acc : Nat) (c : UInt8), dv acc (l ++ [c]) = dv acc l * 10 + (c.toNat - 48) := by
  induction l with
  | nil => intro acc c; rfl
  | cons x r ih => intro acc c; exact ih _ c
theorem toNat_ofNat {n : Nat} (h : n < 256) : (UInt8.ofNat n).toNat = n := by
  rw [UInt8.toNat_ofNat']; omega
theorem dec_snoc {u : Nat} (h : ¬ u < 10) : Lib.decDigits u = Lib.decDigits (u / 10) ++ [UInt8.ofNat (48 + u % 10)] := by
  conv => lhs; rw [Lib.decDigits, dif_neg h]
theorem dec_ne (u : Nat) : Lib.decDigits u ≠ [] := by
  intro e
  have h1 := Lib.decDigits_length u
  rw [e] at h1
  have := Lib.nDigits_pos u
  simp at h1; omega
theorem dec_Dl (u : Nat) : Dl (Lib.decDigits u) := by
  induction u using Nat.strongRecOn with
  | _ u ih =>
    intro c hc
    by_cases h : u < 10
    · rw [Lib.decDigits_one h] at hc
      rw [List.mem_singleton.1 hc, toNat_ofNat (by omega)]; omega
    · rw [dec_snoc h] at hc
      rcases List.mem_append.1 hc with hc | hc
      · exact ih (u / 10) (by omega) c hc
      · rw [List.mem_singleton.1 hc, toNat_ofNat (by omega)]; omega
theorem dec_dv (u : Nat) : dv 0 (Lib.decDigits u) = u := by
  induction u using Nat.strongRecOn with
  | _ u ih =>
    by_cases h : u < 10
    · rw [Lib.decDigits_one h]
      show 0 * 10 + ((UInt8.ofNat (48 + u)).toNat - 48) = u
      rw [toNat_ofNat (by omega)]; omega
    · rw [dec_snoc h, dv_snoc, ih (u / 10) (by omega), toNat_ofNat (by omega)]; omega
theorem dec_head {u : Nat} (hu : 0 < u) : (Lib.decDigits u).head? ≠ some 48 := by
  induction u using Nat.strongRecOn with
  | _ u ih =>
    by_cases h : u < 10
    · rw [Lib.decDigits_one h, List.head?_cons]
      intro e
      have := congrArg UInt8.toNat (Option.some.inj e)
      rw [toNat_ofNat (by omega)] at this
      have h48 : (48 : UInt8).toNat = 48 := rfl
      omega
    · rw [dec_snoc h, head_app (dec_ne _)]
      exact ih (u / 10) (by omega) (by omega)
theorem all_Dl {l : List UInt8} (h : Dl l) : (l.all fun c => decide (48 ≤ c.toNat ∧ c.toNat ≤ 57)) = true := by
  rw [List.all_eq_true]; intro c hc; exact decide_eq_true (h c hc)
theorem read_itoa {n : Int} (hn : -9223372036854775808 ≤ n ∧ n < 9223372036854775808) : readL (Lib.itoa n) = (n, 0) := by
  unfold Lib.itoa
  by_cases h : n < 0
  · rw [if_pos h]
    unfold readL
    simp only
    have em : magL (45 :: Lib.decDigits n.natAbs) = Lib.decDigits n.natAbs := rfl
    have en : negL (45 :: Lib.decDigits n.natAbs) = true := rfl
    rw [em, en, if_neg (dec_ne _), if_neg (fun e => dec_head (by omega) e.1), if_neg (fun e => e (all_Dl (dec_Dl _))), dec_dv, if_neg (by rintro (⟨_, h'⟩ | ⟨h', _⟩); omega; cases h'), if_pos rfl]
    congr 1; omega
  · rw [if_neg h]
    have hD := dec_Dl n.toNat
    have hnn := dec_ne n.toNat
    have em : magL (Lib.decDigits n.toNat) = Lib.decDigits n.toNat := by
      cases hl : Lib.decDigits n.toNat with
      | nil => rfl
      | cons c r =>
        have := hD c (by rw [hl]; exact List.mem_cons_self ..)
        show (if c.toNat = 45 then r else c :: r) = _
        rw [if_neg (by omega)]
    have en : negL (Lib.decDigits n.toNat) = false := by
      cases hl : Lib.decDigits n.toNat with
      | nil => rfl
      | cons c r =>
        have := hD c (by rw [hl]; exact List.mem_cons_self ..)
        show decide (c.toNat = 45) = false
        exact decide_eq_false (by omega)
    unfold readL
    simp only
    rw [em, en, if_neg hnn, if_neg (by
      rintro ⟨h1, h2⟩
      by_cases h0 : 0 < n.toNat
      · exact dec_head h0 h1
      · apply h2
        rw [show n.toNat = 0 from by omega, Lib.decDigits_one (by decide)]; rfl), if_neg (fun e => e (all_Dl hD)), dec_dv, if_neg (by rintro (⟨h', _⟩ | ⟨_, h'⟩); cases h'; omega), if_neg (by decide)]
    congr 1; omega
end Go.Proofs.YtnombbcgdfgadaaDoor.G
end
