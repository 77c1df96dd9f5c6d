import Derived.LaidMore
import Derived.LaidHandle
import Derived.Stop.Joined
import Derived.Lib.IfaceEq
import Derived.Lib.ItoaLen
import Derived.Shelf.Strings.MapGrows
import Derived.Shelf.Abstract
import Derived.LaidEql
import Derived.Stop.Asserts
import Derived.RowKitTokens
import Derived.Lib.LaidTab
import Derived.Lib.AppendIntMem
import Derived.Stop.LaidErr
import Derived.WalkKit
import Derived.Deep.RegionLaw
import Derived.Deep.Cut
import Derived.WalkSpells
import Derived.Test.YtnombbcgdfgadaaDoorPBaR
import Derived.Test.YtnombbcgdfgadaaDoorPBaOW
import Derived.Test.YtnombbcgdfgadaaDoorPBaGx0
import Derived.Test.YtnombbcgdfgadaaDoorPBaGxE44
import Derived.Lib.Hide
set_option linter.unusedVariables false
set_option linter.unusedSimpArgs false
section
namespace Go.Proofs.YtnombbcgdfgadaaDoor.G
open Go.Shelf Go.Extern.Stop Go.Stop Go.Extern Go.RowKit Go.Proofs.YtnombbcgdfgadaaDoorW.PrintWords Go.Proofs.YtnombbcgdfgadaaDoorW.PrintLast Go.Proofs.YtnombbcgdfgadaaDoorW.PrintMore
set_option linter.unusedVariables false
set_option linter.unusedSimpArgs false
theorem runF_some : ∀ (m : Nat) (a : Int) (xs : List S44) (t : ByteArray), 4096 ≤ xs.length + m → ∃ r, runF (m + 1) a xs t = some r
  | m, a, xs, t, h => by
    unfold runF
    split
    · split
      · exact ⟨_, rfl⟩
      · exact ⟨_, rfl⟩
    · split
      · exact ⟨_, rfl⟩
      · by_cases hl : 4096 ≤ xs.length
        · rw [if_pos hl]; exact ⟨_, rfl⟩
        · rw [if_neg hl]
          split
          · exact ⟨_, rfl⟩
          · cases m with
            | zero => omega
            | succ m => exact runF_some m _ _ _ (by rw [List.length_append]; simp; omega)
theorem parse_total (text : ByteArray) (hs : text.size ≤ 140737488353280) : ∃ T zs c a, script_Parse.f 4097 text = some (T, zs, c, a) := by
  obtain ⟨⟨T, zs, c, a⟩, h⟩ := runF_some 4096 0 [] text (by simp)
  exact ⟨T, zs, c, a, by unfold script_Parse.f; rw [if_pos hs]; exact h⟩
theorem runF_len : ∀ (m : Nat) (a : Int) (xs : List S44) (t : ByteArray) (T : ByteArray) (zs : List S44) (c af : Int), xs.length ≤ 4096 → runF m a xs t = some (T, zs, c, af) → zs.length ≤ 4096 ∧ T.size ≤ 32768
  | 0, _, _, _, _, _, _, _, _, h => by simp [runF] at h
  | m + 1, a, xs, t, T, zs, c, af, hx, h => by
    unfold runF at h
    split at h
    · split at h
      · simp only [Option.some.injEq, Prod.mk.injEq] at h
        obtain ⟨rfl, rfl, _⟩ := h
        exact ⟨by simp, by decide⟩
      · simp only [Option.some.injEq, Prod.mk.injEq] at h
        obtain ⟨rfl, rfl, _⟩ := h
        exact ⟨hx, by omega⟩
    · split at h
      · simp only [Option.some.injEq, Prod.mk.injEq] at h
        obtain ⟨rfl, rfl, _⟩ := h
        exact ⟨by simp, by decide⟩
      · split at h
        · simp only [Option.some.injEq, Prod.mk.injEq] at h
          obtain ⟨rfl, rfl, _⟩ := h
          exact ⟨by simp, by decide⟩
        · split at h
          · simp only [Option.some.injEq, Prod.mk.injEq] at h
            obtain ⟨rfl, rfl, _⟩ := h
            exact ⟨by simp, by decide⟩
          · exact runF_len m _ _ _ _ _ _ _ (by rw [List.length_append]; simp; omega) h
theorem parse_len {text T : ByteArray} {zs : List S44} {c af : Int} {k : Nat} (h : script_Parse.f k text = some (T, zs, c, af)) : zs.length ≤ 4096 ∧ T.size ≤ 32768 := by
  unfold script_Parse.f at h
  split at h
  · exact runF_len k 0 [] text T zs c af (by simp) h
  · cases h
end Go.Proofs.YtnombbcgdfgadaaDoor.G
end
