import Derived.LaidMore
import Derived.LaidHandle
import Derived.Stop.Joined
import Derived.Lib.IfaceEq
import Derived.Lib.ItoaLen
import Derived.Shelf.Strings.MapGrows
import Derived.Shelf.Abstract
import Derived.LaidEql
import Derived.Stop.Asserts
import Derived.RowKitTokens
import Derived.Lib.LaidTab
import Derived.Lib.AppendIntMem
import Derived.Stop.LaidErr
import Derived.WalkKit
import Derived.Deep.RegionLaw
import Derived.Deep.Cut
import Derived.WalkSpells
import Derived.Test.YtnombbcgdfgadaaDoorPKnPP
import Derived.Test.YtnombbcgdfgadaaDoorPKnSC
import Derived.Test.YtnombbcgdfgadaaDoorPKnZBk
import Derived.Lib.Hide
set_option linter.unusedVariables false
set_option linter.unusedSimpArgs false
section
namespace Go.Proofs.YtnombbcgdfgadaaDoor.G
open Go.Shelf Go.Extern.Stop Go.Stop Go.Extern Go.RowKit Go.Proofs.YtnombbcgdfgadaaDoorW.PrintWords Go.Proofs.YtnombbcgdfgadaaDoorW.PrintLast Go.Proofs.YtnombbcgdfgadaaDoorW.PrintMore
set_option linter.unusedVariables false
set_option linter.unusedSimpArgs false
def ln (d : S44) : List UInt8 := (nm d.f0.toNat).data.toList ++ (if d.f0 = 3 then [] else 32 :: Lib.itoa d.f1)
theorem lineB_ln (d : S44) : lineB d = ln d ++ [10] := by unfold lineB ln; rw [List.append_assoc]
theorem itoa_no {n : Int} (h0 : 0 ≤ n) : (∀ c ∈ Lib.itoa n, c ≠ 10) ∧ Lib.itoa n ≠ [] ∧ (Lib.itoa n).head? ≠ some 45 := by
  unfold Lib.itoa
  rw [if_neg (by omega)]
  have hD := dec_Dl n.toNat
  refine ⟨fun c hc e => ?_, dec_ne _, fun e => ?_⟩
  · have := hD c hc
    rw [e] at this
    have h10 : (10 : UInt8).toNat = 10 := rfl
    omega
  · cases hl : Lib.decDigits n.toNat with
    | nil => exact dec_ne _ hl
    | cons c r =>
      rw [hl] at e
      have hc := Option.some.inj e
      have := hD c (by rw [hl]; exact List.mem_cons_self ..)
      rw [hc] at this
      have h45 : (45 : UInt8).toNat = 45 := rfl
      omega
theorem nm_no (k : Nat) : ∀ c ∈ (nm k).data.toList, c ≠ 10 := by
  unfold nm
  split <;> decide
theorem ln_no {d : S44} (h : okD d = true) : ∀ c ∈ ln d, c ≠ 10 := by
  obtain ⟨h0, h1, h2, h3, h4⟩ := (okD_iff d).mp h
  intro c hc
  unfold ln at hc
  rcases List.mem_append.mp hc with hc | hc
  · exact nm_no _ c hc
  · split at hc
    · cases hc
    · rcases List.mem_cons.mp hc with rfl | hc
      · decide
      · exact (itoa_no h2).1 c hc
theorem pre_nm {k : Nat} (l : List UInt8) : (nm k).data.toList.isPrefixOf ((nm k).data.toList ++ l) = true := by
  rw [List.isPrefixOf_iff_prefix]
  exact List.prefix_append _ _
theorem refS_skip {l : List UInt8} {k : Nat} (hk : k < 5) (hpre : (nm k).data.toList.isPrefixOf l = true) (h3 : l = (nm 3).data.toList → k = 3) : ∀ (d j : Nat), j + d = k → refS l (5 - j) j = refS l (5 - k) k
  | 0, j, h => by rw [show j = k by omega]
  | d + 1, j, h => by
    have ih := refS_skip hk hpre h3 d (j + 1) (by omega)
    rw [← ih, show 5 - j = (5 - (j + 1)) + 1 by omega]
    conv => lhs; unfold refS
    by_cases hj : j = 3
    · rw [if_pos hj, if_neg (fun e => by have := h3 e; omega), hj]
    · rw [if_neg hj]
      have ha : afterB l (nm j).data.toList = none := by
        unfold afterB
        rw [if_neg (fun hp => nm_one (by omega) hk (by omega) hp hpre)]
      rw [ha]
theorem step_ln {d : S44} (h : okD d = true) (x : ByteArray) (hx : x.data.toList = ln d) : stepF x 5 0 = (d.f0, d.f1, 0) := by
  obtain ⟨h0, h1, h2, h3, h4⟩ := (okD_iff d).mp h
  rw [step_eq x 5 0 rfl, hx]
  obtain ⟨k, hk⟩ : ∃ k : Nat, d.f0 = k := ⟨d.f0.toNat, by omega⟩
  have hkn : d.f0.toNat = k := by omega
  have hpre : (nm k).data.toList.isPrefixOf (ln d) = true := by unfold ln; rw [hkn]; exact pre_nm _
  have h3l : ln d = (nm 3).data.toList → k = 3 := fun e => Classical.byContradiction fun hne => by
    refine nm_one (j := 3) (k := k) (by omega) (by omega) (by omega) ?_ hpre
    rw [e, List.isPrefixOf_iff_prefix]
    exact List.prefix_refl _
  rw [show (5 : Nat) = 5 - 0 from rfl, refS_skip (by omega) hpre h3l k 0 (by omega), show 5 - k = (5 - (k + 1)) + 1 by omega]
  unfold refS
  by_cases hf : k = 3
  · have hf3 : d.f0 = 3 := by omega
    rw [if_pos hf, if_pos (by unfold ln; rw [if_pos hf3, hkn, hf, List.append_nil])]
    rw [hf3, h4 hf3]
  · have hf3 : ¬ d.f0 = 3 := by omega
    rw [if_neg hf]
    have ha : afterB (ln d) (nm k).data.toList = some (Lib.itoa d.f1) := by
      unfold afterB
      rw [if_pos hpre]
      have : (ln d).drop (nm k).data.toList.length = 32 :: Lib.itoa d.f1 := by
        unfold ln
        rw [if_neg hf3, hkn, List.drop_left]
      rw [this]
      rfl
    rw [ha]
    show endR k (Lib.itoa d.f1) = _
    unfold endR
    rw [read_itoa (by omega)]
    dsimp only
    rw [if_neg (by decide), if_neg (itoa_no h2).2.2, if_pos rfl, if_neg (by omega), hk]
theorem src_ln {d : S44} (h : okD d = true) : ln d ≠ [115, 111, 117, 114, 99, 101] := by
  intro e
  obtain ⟨h0, h1, h2, h3, h4⟩ := (okD_iff d).mp h
  have hp : (nm d.f0.toNat).data.toList.isPrefixOf ([115, 111, 117, 114, 99, 101] : List UInt8) = true := by rw [← e]; unfold ln; exact pre_nm _
  obtain h | h | h | h | h : d.f0.toNat = 0 ∨ d.f0.toNat = 1 ∨ d.f0.toNat = 2 ∨ d.f0.toNat = 3 ∨ d.f0.toNat = 4 := by omega
  all_goals (rw [h] at hp; revert hp; decide)
theorem run_print (T : ByteArray) (hT : T.size ≤ 32768) : ∀ (ys : List S44) (m : Nat) (a : Int) (xs : List S44) (t : ByteArray), t.data.toList = ys.flatMap lineB ++ ([115, 111, 117, 114, 99, 101] ++ 10 :: T.data.toList) → ys.all okD = true → xs.length + ys.length ≤ 4096 → runF (m + ys.length + 1) a xs t = some (T, xs ++ ys, 0, 0)
  | [], m, a, xs, t, ht, _, _ => by
    rw [List.flatMap_nil, List.nil_append] at ht
    have hc := cut_line t _ _ src_no ht
    rw [show (⟨T.data.toList.toArray⟩ : ByteArray) = T from ba_ext rfl] at hc
    unfold runF
    rw [hc]
    dsimp only
    have hsr : (⟨([115, 111, 117, 114, 99, 101] : List UInt8).toArray⟩ : ByteArray).toList = srcB.toList := by rw [toList_data]; exact (toList_data srcB).symm
    rw [if_pos ⟨rfl, hsr⟩, if_neg (by omega), List.append_nil]
  | d :: ys, m, a, xs, t, ht, hall, hlen => by
    rw [List.all_cons, Bool.and_eq_true] at hall
    rw [List.length_cons] at hlen
    rw [List.flatMap_cons, lineB_ln, List.append_assoc, List.append_assoc, List.cons_append, List.nil_append] at ht
    have hc := cut_line t _ _ (ln_no hall.1) ht
    have ih := run_print T hT ys m (wrap64 (a + 1)) (xs ++ [d]) ⟨(ys.flatMap lineB ++ ([115, 111, 117, 114, 99, 101] ++ 10 :: T.data.toList)).toArray⟩ rfl hall.2 (by rw [List.length_append]; simp; omega)
    rw [List.length_cons, show m + (ys.length + 1) + 1 = (m + ys.length + 1) + 1 by omega]
    unfold runF
    rw [hc]
    dsimp only
    rw [step_ln hall.1 ⟨(ln d).toArray⟩ rfl]
    dsimp only
    have hns : ¬ ((⟨(ln d).toArray⟩ : ByteArray).toList = srcB.toList) := by
      rw [toList_data, toList_data]
      exact src_ln hall.1
    rw [if_neg (fun h => hns h.2), if_neg (by decide), if_neg (by omega), if_neg (by decide)]
    rw [show xs ++ d :: ys = (xs ++ [d]) ++ ys by simp]
    exact ih
end Go.Proofs.YtnombbcgdfgadaaDoor.G
end
