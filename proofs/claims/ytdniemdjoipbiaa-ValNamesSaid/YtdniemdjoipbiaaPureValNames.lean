/- ValNames: of all numbers and texts the names of kinds and builtins are the document's. No condition beyond the row's own. -/
import Derived.Test.YtdniemdjoipbiaaPz
import Derived.Test.YtdniemdjoipbiaaGx4
namespace Go.Proofs.Ytdniemdjoipbiaa.Pure
open Go.RowKit Go.Proofs.Ytdniemdjoipbiaa.G Go.Proofs.Ytdniemdjoipbiaa.Z Go.Proofs.YtdniemdjoipbiaaW.PrintWords Go.Proofs.YtdniemdjoipbiaaW.PrintLast

theorem libof_from (s : ByteArray) (d : Nat) : ∀ (k i : Nat), 13 - i = d → i ≤ 13 → d < k → tallowref02_LibOf.l0 k s i = some (H.firstOf (H.libL.drop i) i s) := by
  induction d with
  | zero =>
    intro k i hd hi hk
    obtain ⟨k, rfl⟩ : ∃ m, k = m + 1 := ⟨k - 1, by omega⟩
    obtain rfl : i = 13 := by omega
    rw [tallowref02_LibOf.l0, if_neg (by omega)]; rfl
  | succ d ih =>
    intro k i hd hi hk
    obtain ⟨k, rfl⟩ : ∃ m, k = m + 1 := ⟨k - 1, by omega⟩
    have hlt : i < H.libL.length := by show i < 13; omega
    have hdr : H.libL.drop i = H.libL[i] :: H.libL.drop (i + 1) := List.drop_eq_getElem_cons hlt
    have ht : H.tabS H.libL (i : Int) = H.libL[i] := by
      unfold H.tabS; rw [if_neg (by omega), List.getD_eq_getElem?_getD]
      simp [hlt]
    rw [tallowref02_LibOf.l0, if_pos (by omega), tallowref02_Lib.f, ht, hdr, H.firstOf]
    simp only [Option.bind_some]
    by_cases he : H.libL[i].toList = s.toList
    · rw [if_pos he, if_pos he]
    · have hc : ((i : Int) + 1) = ((i + 1 : Nat) : Int) := by omega
      rw [if_neg he, if_neg he, w64 (by omega) (by omega), hc, ih k (i + 1) (by omega) (by omega) (by omega)]
theorem ValNames : tallowlaw02_ValNames.Pure := by
  intro n s _ _
  refine ⟨14, ?_⟩
  unfold tallowlaw02_ValNames.f tallowref02_LibOf.f
  have h := libof_from s 13 14 0 rfl (by omega) (by omega)
  have h' : tallowref02_LibOf.l0 14 s 0 = some (H.firstOf H.libL 0 s) := h
  rw [h']
  simp [val_Name.f, tallowref02_Name.f, val_Lib.f, tallowref02_Lib.f, val_LibOf.f, tallowlaw02_works.f]

end Go.Proofs.Ytdniemdjoipbiaa.Pure
