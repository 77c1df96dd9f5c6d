import Derived.Test.YtpdcedmnkkiekaaGxF13
import Derived.Test.YtpdcedmnkkiekaaGxF12
namespace Go.Proofs.Ytpdcedmnkkiekaa.Z
open Go.RowKit Go.Proofs.Ytpdcedmnkkiekaa.G Go.Proofs.YtpdcedmnkkiekaaW.PrintWords Go.Proofs.YtpdcedmnkkiekaaW.PrintLast Go.Proofs.YtpdcedmnkkiekaaW.PrintMore
set_option linter.unusedVariables false
set_option linter.unusedSimpArgs false
theorem w64 (x : Int) (h0 : -9223372036854775808 ≤ x) (h1 : x ≤ 9223372036854775807) : wrap64 x = x := by unfold wrap64; omega
theorem names_len : ((rowsL 0).map Row.nm).length = 37 := rfl
theorem names_at (k : Nat) (h : k < 37) : ((rowsL 0).map Row.nm)[k]? = some (nameS k) := by
  obtain ⟨r, hr⟩ := rowsL_get 0 k (by omega) (by omega)
  rw [nameS_row 0 k (by omega) r hr]
  rw [Int.toNat_natCast] at hr
  rw [List.getElem?_map, hr]
  rfl
theorem names_drop (k : Nat) (h : k < 37) : ((rowsL 0).map Row.nm).drop k = nameS k :: ((rowsL 0).map Row.nm).drop (k + 1) := by
  obtain ⟨hl, he⟩ := List.getElem?_eq_some_iff.1 (names_at k h)
  rw [List.drop_eq_getElem_cons hl, he]
theorem rop_l (name : ByteArray) : ∀ (d i k : Nat), i + d = 37 → d + 1 ≤ k → tallowref20_Op.l0 k name i = some (firstN name (((rowsL 0).map Row.nm).drop i) i)
  | 0, i, k, h, hk => by
    obtain ⟨k, rfl⟩ : ∃ k', k = k' + 1 := ⟨k - 1, by omega⟩
    obtain rfl : i = 37 := by omega
    rw [tallowref20_Op.l0, if_neg (by decide)]
    rfl
  | d + 1, i, k, h, hk => by
    obtain ⟨k, rfl⟩ : ∃ k', k = k' + 1 := ⟨k - 1, by omega⟩
    rw [tallowref20_Op.l0, if_pos (by omega)]
    show (some (nameS i)).bind _ = _
    rw [Option.bind_some, names_drop i (by omega)]
    show _ = some (if ((nameS i).toList == name.toList) = true then (i : Int) else firstN name (((rowsL 0).map Row.nm).drop (i + 1)) ((i : Int) + 1))
    by_cases he : (nameS i).toList = name.toList
    · rw [if_pos he, if_pos (beq_iff_eq.mpr he)]
    · rw [if_neg he, if_neg (by rw [beq_iff_eq]; exact he), w64 _ (by omega) (by omega), show ((i : Int) + 1) = ((i + 1 : Nat) : Int) by omega]
      exact rop_l name d (i + 1) k (by omega) (by omega)
theorem rop (name : ByteArray) (k : Nat) (h : 38 ≤ k) : tallowref20_Op.f k name = some (opOf name) := rop_l name 37 0 k rfl h
theorem firstN_spec (name : ByteArray) : ∀ (l : List ByteArray) (i : Int), 0 ≤ i → firstN name l i = -1 ∨ ∃ j : Nat, firstN name l i = i + j ∧ j < l.length ∧ ∃ x, l[j]? = some x ∧ x.toList = name.toList
  | [], i, _ => .inl rfl
  | x :: l, i, hi => by
    unfold firstN
    by_cases he : (x.toList == name.toList) = true
    · rw [if_pos he]
      exact .inr ⟨0, by simp, by simp, x, rfl, beq_iff_eq.mp he⟩
    · rw [if_neg he]
      rcases firstN_spec name l (i + 1) (by omega) with h | ⟨j, h1, h2, y, h3, h4⟩
      · exact .inl h
      · exact .inr ⟨j + 1, by rw [h1]; omega, by simpa using h2, y, by simpa using h3, h4⟩
theorem opOf_spec (name : ByteArray) : opOf name = -1 ∨ (0 ≤ opOf name ∧ opOf name < 37 ∧ (nameS (opOf name)).toList = name.toList) := by
  unfold opOf
  rcases firstN_spec name ((rowsL 0).map Row.nm) 0 (Int.le_refl _) with h | ⟨j, h1, h2, y, h3, h4⟩
  · exact .inl h
  · right
    rw [names_len] at h2
    rw [names_at j h2] at h3
    rw [h1, show (0 : Int) + (j : Int) = j by omega]
    refine ⟨by omega, by omega, ?_⟩
    rw [Option.some.inj h3]
    exact h4
theorem names_back : ∀ i : Fin 37, opOf (nameS (i.val : Int)) = i.val ∧ (nameS (i.val : Int)).toList ≠ [] := by decide +kernel
end Go.Proofs.Ytpdcedmnkkiekaa.Z
