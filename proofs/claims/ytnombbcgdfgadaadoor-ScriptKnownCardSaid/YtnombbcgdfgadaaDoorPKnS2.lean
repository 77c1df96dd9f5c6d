import Derived.LaidMore
import Derived.LaidHandle
import Derived.Stop.Joined
import Derived.Lib.IfaceEq
import Derived.Lib.ItoaLen
import Derived.Shelf.Strings.MapGrows
import Derived.Shelf.Abstract
import Derived.LaidEql
import Derived.Stop.Asserts
import Derived.RowKitTokens
import Derived.Lib.LaidTab
import Derived.Lib.AppendIntMem
import Derived.Stop.LaidErr
import Derived.WalkKit
import Derived.Deep.RegionLaw
import Derived.Deep.Cut
import Derived.WalkSpells
import Derived.Test.YtnombbcgdfgadaaDoorPKnZB
import Derived.Test.YtnombbcgdfgadaaDoorPKnS
import Derived.Test.YtnombbcgdfgadaaDoorPKnGx0
import Derived.Lib.Hide
set_option linter.unusedVariables false
set_option linter.unusedSimpArgs false
section
namespace Go.Proofs.YtnombbcgdfgadaaDoor.G
open Go.Shelf Go.Extern.Stop Go.Stop Go.Extern Go.RowKit Go.Proofs.YtnombbcgdfgadaaDoorW.PrintWords Go.Proofs.YtnombbcgdfgadaaDoorW.PrintLast Go.Proofs.YtnombbcgdfgadaaDoorW.PrintMore
set_option linter.unusedVariables false
set_option linter.unusedSimpArgs false
theorem ext_drop (x : ByteArray) (n : Nat) : (x.extract n x.size).data.toList = x.data.toList.drop n := by
  rw [ByteArray.data_extract, Array.toList_extract]
  show (x.data.toList.drop n).take (x.size - n) = _
  rw [List.take_of_length_le]
  rw [List.length_drop, ← size_list]
  omega
def afterB (l p : List UInt8) : Option (List UInt8) := if p.isPrefixOf l then (match l.drop p.length with | 32 :: d => some d | _ => none) else none
def endR (k : Int) (d : List UInt8) : Int × Int × Int :=
  if (readL d).2 = 4 then (0, 0, 4) else if d.head? = some 45 then (0, 0, 4) else if (readL d).2 = 0 then (if (readL d).1 > 2147483647 then (0, 0, 15) else (k, (readL d).1, 0)) else (0, 0, 15)
def refS (l : List UInt8) : Nat → Nat → Int × Int × Int
  | 0, _ => (0, 0, 4)
  | r + 1, k => if k = 3 then (if l = (nm 3).data.toList then (3, 0, 0) else refS l r 4) else match afterB l (nm k).data.toList with | some d => endR k d | none => refS l r (k + 1)
theorem nm_apart : ∀ j k : Fin 5, j ≠ k → (nm j.val).data.toList.isPrefixOf (nm k.val).data.toList = false := by decide +kernel
theorem nm_one {l : List UInt8} {j k : Nat} (hj : j < 5) (hk : k < 5) (hne : j ≠ k) (h1 : (nm j).data.toList.isPrefixOf l = true) (h2 : (nm k).data.toList.isPrefixOf l = true) : False := by
  rw [List.isPrefixOf_iff_prefix] at h1 h2
  rcases List.prefix_or_prefix_of_prefix h1 h2 with h | h
  · have := nm_apart ⟨j, hj⟩ ⟨k, hk⟩ (fun e => hne (congrArg Fin.val e))
    rw [← List.isPrefixOf_iff_prefix] at h
    rw [h] at this; cases this
  · have := nm_apart ⟨k, hk⟩ ⟨j, hj⟩ (fun e => hne (congrArg Fin.val e).symm)
    rw [← List.isPrefixOf_iff_prefix] at h
    rw [h] at this; cases this
theorem no_other {l : List UInt8} {k : Nat} (hk : k < 5) (h : (nm k).data.toList.isPrefixOf l = true) : ∀ (r j : Nat), r + j = 5 → k < j → refS l r j = (0, 0, 4)
  | 0, j, _, _ => rfl
  | r + 1, j, hj, hkj => by
    have ih := no_other hk h r (j + 1) (by omega) (by omega)
    unfold refS
    by_cases h3 : j = 3
    · subst h3
      rw [if_pos rfl, if_neg (fun e => nm_one (j := 3) (k := k) (by omega) hk (by omega) (by rw [e, List.isPrefixOf_iff_prefix]; exact List.prefix_refl _) h)]
      exact ih
    · rw [if_neg h3]
      have ha : afterB l (nm j).data.toList = none := by
        unfold afterB
        rw [if_neg (fun hp => nm_one (by omega) hk (by omega) hp h)]
      rw [ha]
      exact ih
theorem hp_eq (s p : ByteArray) : hp s p = p.data.toList.isPrefixOf s.data.toList := rfl
theorem cp_eq {s p : ByteArray} (h : hp s p = true) : (cp s p).data.toList = s.data.toList.drop p.data.toList.length := by
  show (Lib.trimPrefix s.data.toList p.data.toList).toArray.toList = _
  unfold Lib.trimPrefix
  have h2 : Lib.hasPrefix s.data.toList p.data.toList = true := h
  rw [if_pos h2]
theorem end_eq (k : Int) (rest : ByteArray) (d : List UInt8) (h : rest.data.toList = 32 :: d) : endF k rest = endR k d := by
  have h1 : hp rest ⟨#[32]⟩ = true := by rw [hp_eq, h]; simp [List.isPrefixOf]
  have h2 : (cp rest ⟨#[32]⟩).data.toList = d := by rw [cp_eq h1, h]; rfl
  unfold endF
  rw [if_neg (by rw [h1]; decide), parseF_read, h2]
  have h3 : hp (cp rest ⟨#[32]⟩) ⟨#[45]⟩ = decide (d.head? = some 45) := by
    rw [hp_eq, h2]
    cases d with
    | nil => rfl
    | cons c r =>
      show ((45 == c) && ([] : List UInt8).isPrefixOf r) = decide (some c = some 45)
      by_cases hc : c = 45
      · subst hc
        rw [decide_eq_true rfl]
        rfl
      · rw [beq_eq_false_iff_ne.mpr (fun e => hc e.symm), Bool.false_and, decide_eq_false (fun e => hc (Option.some.inj e))]
  rw [h3]
  unfold endR
  generalize readL d = q
  obtain ⟨v, e⟩ := q
  dsimp only
  by_cases h5 : d.head? = some 45
  · rw [decide_eq_true h5, if_pos rfl, if_pos h5]
    by_cases h4 : e = 4
    · rw [if_pos h4]
    · rw [if_neg h4]
  · rw [decide_eq_false h5, if_neg Bool.false_ne_true, if_neg h5]
    by_cases h6 : e = 0
    · subst h6
      rw [if_pos rfl, if_neg (by decide : ¬ ((0 : Int) = 4)), if_pos rfl]
      by_cases h7 : v > 2147483647
      · rw [if_pos h7, if_neg (by omega)]
      · rw [if_neg h7, if_pos (by omega)]
    · rw [if_neg h6, if_neg h6]
theorem step_eq (x : ByteArray) : ∀ (r k : Nat), r + k = 5 → stepF x r k = refS x.data.toList r k
  | 0, k, _ => rfl
  | r + 1, k, h => by
    have ih := step_eq x r (k + 1) (by omega)
    unfold stepF refS
    cases hh : hp x (nm k) with
    | false =>
      rw [if_pos rfl]
      rw [hp_eq] at hh
      by_cases h3 : k = 3
      · subst h3
        rw [if_pos rfl, if_neg (fun e => by
          have : (nm 3).data.toList.isPrefixOf x.data.toList = true := by rw [e, List.isPrefixOf_iff_prefix]; exact List.prefix_refl _
          rw [this] at hh; cases hh)]
        exact ih
      · rw [if_neg h3]
        have ha : afterB x.data.toList (nm k).data.toList = none := by
          unfold afterB
          rw [hh, if_neg Bool.false_ne_true]
        rw [ha]
        exact ih
    | true =>
      rw [if_neg (by decide)]
      have hc := cp_eq hh
      have hpre : (nm k).data.toList.isPrefixOf x.data.toList = true := hh
      have hdrop : x.data.toList = (nm k).data.toList ++ x.data.toList.drop (nm k).data.toList.length := by
        have h1 := hpre
        rw [List.isPrefixOf_iff_prefix] at h1
        obtain ⟨z, hz⟩ := h1
        rw [← hz, List.drop_left]
      by_cases h3 : k = 3
      · subst h3
        rw [if_pos rfl, if_pos rfl, toList_data, hc]
        by_cases he : x.data.toList.drop (nm 3).data.toList.length = []
        · rw [if_pos he, if_pos (by rw [hdrop, he, List.append_nil])]
        · rw [if_neg he, if_neg (fun e => he (by rw [e, List.drop_length]))]
          exact ih
      · rw [if_neg h3, if_neg h3, toList_data, hc]
        by_cases he : x.data.toList.drop (nm k).data.toList.length = []
        · rw [if_pos he]
          have ha : afterB x.data.toList (nm k).data.toList = none := by
            unfold afterB
            rw [if_pos hpre, he]
          rw [ha]
          exact ih
        · rw [if_neg he]
          cases hd : x.data.toList.drop (nm k).data.toList.length with
          | nil => exact absurd hd he
          | cons c d =>
            rw [hd] at hc
            by_cases h32 : c = 32
            · subst h32
              have ha : afterB x.data.toList (nm k).data.toList = some d := by
                unfold afterB
                rw [if_pos hpre, hd]
                rfl
              rw [ha]
              exact end_eq k _ d hc
            · have ha : afterB x.data.toList (nm k).data.toList = none := by
                unfold afterB
                rw [if_pos hpre, hd]
                split
                · rename_i e; injection e with e1 _; exact absurd e1 h32
                · rfl
              rw [ha]
              show _ = refS x.data.toList r (k + 1)
              rw [no_other (by omega) hpre r (k + 1) (by omega) (by omega)]
              unfold endF
              rw [if_pos (by
                rw [hp_eq, hc]
                show ((32 == c) && _) = false
                rw [beq_eq_false_iff_ne.mpr (fun e => h32 e.symm), Bool.false_and])]
end Go.Proofs.YtnombbcgdfgadaaDoor.G
end
