/- ValBack: a builtin and its name are found by each other, and no two kinds have one name; for all numbers and texts. No condition beyond the row's own. -/
import Derived.Test.YtdniemdjoipbiaaPz
import Derived.Test.YtdniemdjoipbiaaGx6
namespace Go.Proofs.Ytdniemdjoipbiaa.Pure
open Go.RowKit Go.Proofs.Ytdniemdjoipbiaa.G Go.Proofs.Ytdniemdjoipbiaa.Z Go.Proofs.YtdniemdjoipbiaaW.PrintWords Go.Proofs.YtdniemdjoipbiaaW.PrintLast

theorem firstOf_from (s : ByteArray) : ∀ (l : List ByteArray) (i : Int), (H.firstOf l i s = -1) ∨ (∃ j : Nat, j < l.length ∧ H.firstOf l i s = i + j ∧ (l.getD j ⟨#[]⟩).toList = s.toList)
  | [], i => .inl rfl
  | x :: l, i => by
    by_cases h : x.toList = s.toList
    · exact .inr ⟨0, by simp, by rw [H.firstOf, if_pos h]; simp, h⟩
    · rcases firstOf_from s l (i + 1) with h1 | ⟨j, hj, h1, h2⟩
      · exact .inl (by rw [H.firstOf, if_neg h, h1])
      · exact .inr ⟨j + 1, by simpa using hj, by rw [H.firstOf, if_neg h, h1]; push_cast; omega, h2⟩
theorem tab_out (l : List ByteArray) (n : Int) (h : n < 0 ∨ l.length ≤ n) : H.tabS l n = ⟨#[]⟩ := by
  unfold H.tabS
  rcases h with h | h
  · rw [if_pos h]
  · rw [if_neg (by omega), List.getD_eq_getElem?_getD, List.getElem?_eq_none (by omega)]; rfl
theorem empty_toList : (⟨#[]⟩ : ByteArray).toList = [] := ByteArray.toList_mk []
theorem lib_back : ∀ n : Fin 13, (H.tabS H.libL n.val).toList ≠ [] ∧ H.firstOf H.libL 0 (H.tabS H.libL n.val) = n.val := by decide +kernel
theorem name_apart : ∀ n m : Fin 10, (H.tabS H.kindL n.val).toList ≠ [] ∧ ((H.tabS H.kindL n.val).toList = (H.tabS H.kindL m.val).toList → n = m) := by decide +kernel
theorem back_j0 (k : Nat) (n m : Int) : tallowlaw02_ValBack.j0 (k + 1) n m false = some true := by
  rw [tallowlaw02_ValBack.j0, if_neg (by decide)]
  simp only [val_Name.f, Option.bind_some]
  by_cases hn : n < 0 ∨ (H.kindL.length : Int) ≤ n
  · rw [tab_out _ _ hn, if_pos empty_toList]
  · have hk : H.kindL.length = 10 := rfl
    rw [hk] at hn
    obtain ⟨a, rfl⟩ : ∃ a : Fin 10, n = a.val := ⟨⟨n.toNat, by omega⟩, by simp; omega⟩
    rw [if_neg (name_apart a a).1]
    by_cases hm : m < 0 ∨ (H.kindL.length : Int) ≤ m
    · rw [tab_out _ _ hm, empty_toList]
      have h1 := (name_apart a a).1
      rw [hk] at hm
      have h2 : ¬ ((a.val : Int) = m) := by omega
      rw [beq_eq_false_iff_ne.2 h1, beq_eq_false_iff_ne.2 h2]; rfl
    · rw [hk] at hm
      obtain ⟨b, rfl⟩ : ∃ b : Fin 10, m = b.val := ⟨⟨m.toNat, by omega⟩, by simp; omega⟩
      rw [Option.some.injEq]
      by_cases hab : a = b
      · subst hab; simp
      · have h1 : ¬ (H.tabS H.kindL a.val).toList = (H.tabS H.kindL b.val).toList := fun h => hab ((name_apart a b).2 h)
        have h2 : ¬ ((a.val : Int) = (b.val : Int)) := by omega
        rw [beq_eq_false_iff_ne.2 h1, beq_eq_false_iff_ne.2 h2]; rfl
theorem back_lib (k : Nat) (n m : Int) : ((val_Lib.f n).bind fun t166 => if t166.toList = ([] : List UInt8) then tallowlaw02_ValBack.j0 (k + 1) n m false else ((val_Lib.f n).bind fun t167 => (val_LibOf.f t167).bind fun t168 => tallowlaw02_ValBack.j0 (k + 1) n m (t168 != n))) = some true := by
  simp only [val_Lib.f, val_LibOf.f, Option.bind_some]
  by_cases hn : n < 0 ∨ (H.libL.length : Int) ≤ n
  · rw [tab_out _ _ hn, if_pos empty_toList, back_j0]
  · have hk : H.libL.length = 13 := rfl
    rw [hk] at hn
    obtain ⟨a, rfl⟩ : ∃ a : Fin 13, n = a.val := ⟨⟨n.toNat, by omega⟩, by simp; omega⟩
    rw [if_neg (lib_back a).1, (lib_back a).2]
    have : ((a.val : Int) != (a.val : Int)) = false := by simp
    rw [this, back_j0]
theorem ValBack : tallowlaw02_ValBack.Pure := by
  intro n m s _ _ _
  refine ⟨1, ?_⟩
  unfold tallowlaw02_ValBack.f
  rw [tallowlaw02_works.f, Option.bind_some, if_pos rfl, val_LibOf.f, Option.bind_some]
  rcases firstOf_from s H.libL 0 with h | ⟨j, hj, h, h2⟩
  · rw [h, if_neg (by omega), if_neg (by omega)]
    exact back_lib 0 n m
  · have ht : H.tabS H.libL (0 + (j : Int)) = H.libL.getD j ⟨#[]⟩ := by
      unfold H.tabS; rw [if_neg (by omega)]; congr 1; omega
    rw [h, if_pos (by omega), val_Lib.f, Option.bind_some, ht, if_pos h2, if_neg (by omega)]
    exact back_lib 0 n m
end Go.Proofs.Ytdniemdjoipbiaa.Pure
