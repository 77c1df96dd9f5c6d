import Derived.Test.YtnklefbojabblaaPs
import Derived.Test.YtnklefbojabblaaGxF12
import Derived.Test.YtnklefbojabblaaGxF11
namespace Go.Proofs.Ytnklefbojabblaa.Z
open Go.RowKit Go.Proofs.Ytnklefbojabblaa.G Go.Proofs.Ytnklefbojabblaa.H Go.Proofs.YtnklefbojabblaaW.PrintWords Go.Proofs.YtnklefbojabblaaW.PrintLast Go.Proofs.YtnklefbojabblaaW.PrintMore
set_option linter.unusedVariables false
set_option linter.unusedSimpArgs false
theorem dec_step : ∀ (k : Nat) (u : ByteArray), u.size < k → dec (k + 1) u = dec k u
  | 0, u, h => absurd h (Nat.not_lt_zero _)
  | k + 1, u, h => by
    by_cases h0 : u.size = 0
    · unfold dec; rw [if_pos h0, if_pos h0]
    · rw [dec, dec, if_neg h0, if_neg h0]
      cases hs : ustep u with
      | none => rfl
      | some p =>
        obtain ⟨c, n⟩ := p
        have hb := ustep_bounds h0 hs
        have e : (u.extract n.toNat u.size).size = u.size - n.toNat := by rw [ByteArray.size_extract]; omega
        show (dec (k + 1) (u.extract n.toNat u.size)).map _ = (dec k (u.extract n.toNat u.size)).map _
        rw [dec_step k _ (by omega)]
theorem dec_fuel (u : ByteArray) : ∀ d : Nat, dec (u.size + 1 + d) u = dec (u.size + 1) u
  | 0 => rfl
  | d + 1 => (dec_step (u.size + 1 + d) u (by omega)).trans (dec_fuel u d)
theorem decE_fuel (k : Nat) (u : ByteArray) (acc : List Int) (h : u.size < k) : decE k u acc = decE (u.size + 1) u acc := by
  obtain ⟨d, rfl⟩ : ∃ d, k = u.size + 1 + d := ⟨k - u.size - 1, by omega⟩
  unfold decE
  rw [dec_fuel]
theorem ext_ext (u : ByteArray) (a n : Nat) (h : a + n ≤ u.size) : (u.extract a u.size).extract n (u.extract a u.size).size = u.extract (a + n) u.size := by
  apply ByteArray.ext
  have e : (u.extract a u.size).size = u.size - a := by rw [ByteArray.size_extract]; omega
  rw [e, ByteArray.data_extract, ByteArray.data_extract, ByteArray.data_extract, Array.extract_extract]
  congr 1
  omega
theorem decE_end (k : Nat) (u : ByteArray) (acc : List Int) (h : u.size = 0) : decE (k + 1) u acc = if (acc.length : Int) > 4096 then (⟨#[]⟩, 3) else (strOfNums acc, 0) := by
  unfold decE dec
  rw [if_pos h]
  show fin (acc ++ []) = _
  rw [List.append_nil]
  unfold fin
  by_cases hl : acc.length > 4096
  · rw [if_pos hl, if_pos (by omega)]
  · rw [if_neg hl, if_neg (by omega)]
theorem runq_l (u : ByteArray) (hu : u.size < 70368744177664) : ∀ (n at_ : Nat) (acc : List Int), at_ ≤ u.size → u.size - at_ ≤ n → acc.length + (u.size - at_) < 140737488355328 →
    tallowref03_Unquote.l0 (n + 5) u acc at_ = some (decE (n + 1) (u.extract at_ u.size) acc) := by
  intro n
  induction n with
  | zero =>
    intro at_ acc h1 h2 h3
    have e : (u.extract at_ u.size).size = u.size - at_ := by rw [ByteArray.size_extract]; omega
    rw [tallowref03_Unquote.l0, if_neg (by omega)]
    rw [decE_end _ _ _ (by omega)]
    split <;> rfl
  | succ n ih =>
    intro at_ acc h1 h2 h3
    have e : (u.extract at_ u.size).size = u.size - at_ := by rw [ByteArray.size_extract]; omega
    rw [tallowref03_Unquote.l0]
    by_cases ha : at_ < u.size
    · rw [if_pos (by omega), if_pos (by omega), if_pos (by omega)]
      have h0 : (u.extract at_ u.size).size ≠ 0 := by omega
      show ((tallowref03_One.f (n + 1 + 4) (u.extract at_ u.size)).bind _) = _
      rw [rone _ _ h0, Option.bind_some]
      unfold oneOf
      unfold decE dec
      rw [if_neg h0]
      cases hs : ustep (u.extract at_ u.size) with
      | none => rfl
      | some p =>
        obtain ⟨c, m⟩ := p
        have hb := ustep_bounds h0 hs
        show (if m = 0 then _ else if acc.length < 140737488355328 then tallowref03_Unquote.l0 (n + 5) u (acc ++ [c]) (wrap64 ((at_ : Int) + m)) else none) = _
        rw [if_neg (by omega), if_pos (by omega), w64 _ (by omega) (by omega)]
        obtain ⟨m', rfl⟩ := Int.eq_ofNat_of_zero_le (show 0 ≤ m by omega)
        rw [show ((at_ : Int) + (m' : Int)) = ((at_ + m' : Nat) : Int) by omega, ih (at_ + m') (acc ++ [c]) (by omega) (by omega) (by simp; omega)]
        show some (decE (n + 1) (u.extract (at_ + m') u.size) (acc ++ [c])) = some (match ((dec (n + 1) ((u.extract at_ u.size).extract (m' : Int).toNat (u.extract at_ u.size).size)).map (c :: ·)) with | none => (⟨#[]⟩, 4) | some l => fin (acc ++ l))
        rw [Int.toNat_natCast, ext_ext u at_ m' (by omega)]
        unfold decE
        cases dec (n + 1) (u.extract (at_ + m') u.size) with
        | none => rfl
        | some l => simp
    · rw [if_neg (by omega)]
      rw [decE_end _ _ _ (by omega)]
      split <;> rfl
theorem two_ends (q : ByteArray) (h : 2 ≤ q.size) : ∃ (x y : UInt8) (m : List UInt8), q = ⟨(x :: m ++ [y]).toArray⟩ ∧ q.size = m.length + 2 := by
  obtain ⟨d⟩ := q
  obtain ⟨L⟩ := d
  have hL : 2 ≤ L.length := h
  match L, hL with
  | x :: t, hL =>
    have ht : t ≠ [] := fun e => by subst e; simp at hL
    refine ⟨x, t.getLast ht, t.dropLast, ?_, ?_⟩
    · rw [List.cons_append, List.dropLast_concat_getLast ht]
    · show (x :: t).length = _
      simp at hL
      simp
      omega
theorem runquote (q : ByteArray) (hq : q.size < 70368744177664) (k : Nat) (hk : q.size + 6 ≤ k) : tallowref03_Unquote.f k q = quote_Unquote.f q := by
  unfold quote_Unquote.f
  rw [if_pos (by omega)]
  obtain ⟨k, rfl⟩ : ∃ k', k = k' + 1 := ⟨k - 1, by omega⟩
  have hj : tallowref03_Unquote.j0 (k + 1) q true = some (⟨#[]⟩, 4) := by rw [tallowref03_Unquote.j0, if_pos rfl]
  unfold tallowref03_Unquote.f
  by_cases h2 : q.size < 2
  · rw [if_pos (by omega), hj]
    unfold unquote.f
    rw [if_neg]
    rintro ⟨e1, e2⟩
    obtain ⟨⟨L⟩⟩ := q
    have hL : L.length < 2 := h2
    match L, hL with
    | [], _ => simp [Lib.hasPrefix] at e1
    | [x], _ =>
      unfold Lib.trimPrefix at e2
      rw [if_pos e1] at e2
      simp [Lib.hasSuffix, List.isSuffixOf] at e2
  · rw [if_neg (by omega), if_pos (by omega)]
    obtain ⟨x, y, m, rfl, hsz⟩ := two_ends q (by omega)
    have hb0 : bt ⟨(x :: m ++ [y]).toArray⟩ 0 = x.toNat := bt0 _ _
    have hb1 : bt ⟨(x :: m ++ [y]).toArray⟩ ((m.length : Int) + 1) = y.toNat := by
      unfold bt
      have e : ((m.length : Int) + 1).toNat = m.length + 1 := by omega
      rw [dif_pos (by rw [e, hsz]; omega)]
      have : (⟨(x :: m ++ [y]).toArray⟩ : ByteArray)[((m.length : Int) + 1).toNat]'(by rw [e, hsz]; omega) = y := by
        show ((x :: m ++ [y]).toArray)[((m.length : Int) + 1).toNat]'(by rw [e]; simp) = y
        simp only [e]
        simp
      rw [this]
    have hw : wrap64 (((⟨(x :: m ++ [y]).toArray⟩ : ByteArray).size : Int) - 1) = (m.length : Int) + 1 := by rw [w64 _ (by omega) (by omega)]; omega
    rw [hb0, hw, hb1, hsz]
    have hpre : Lib.hasPrefix (x :: m ++ [y]) [34] = (34 == x) := by simp [Lib.hasPrefix, List.isPrefixOf]
    by_cases hx : x = 34
    · subst hx
      rw [if_pos (by decide), if_pos (by omega), if_pos (by omega)]
      by_cases hy : y = 34
      · subst hy
        rw [show (((34 : UInt8).toNat : Int) != 34) = false by decide, unquote_in _ m (by omega) (by omega)]
        rw [tallowref03_Unquote.j0, if_neg (by decide), hsz, w64 _ (by omega) (by omega), if_pos (by omega), if_pos (by omega)]
        have hin : (⟨(34 :: m ++ [34]).toArray⟩ : ByteArray).extract 1 (((m.length + 2 : Nat) : Int) - 1).toNat = ⟨m.toArray⟩ := by
          apply ByteArray.ext
          rw [ByteArray.data_extract]
          apply Array.toList_inj.mp
          rw [Array.toList_extract]
          rw [show (((m.length + 2 : Nat) : Int) - 1).toNat = m.length + 1 by omega]
          simp [List.extract]
        rw [hin]
        obtain ⟨n, rfl⟩ : ∃ n, k = n + 5 := ⟨k - 5, by omega⟩
        have := runq_l ⟨m.toArray⟩ (by rw [sz_arr]; omega) n 0 [] (Nat.zero_le _) (by rw [sz_arr]; omega) (by rw [sz_arr]; simp; omega)
        have he : (⟨m.toArray⟩ : ByteArray).extract 0 (⟨m.toArray⟩ : ByteArray).size = ⟨m.toArray⟩ := by
          apply ByteArray.ext
          rw [ByteArray.data_extract]
          simp [ByteArray.size]
        rw [he] at this
        rw [show (0 : Int) = ((0 : Nat) : Int) from rfl, this, decE_fuel _ _ _ (by rw [sz_arr]; omega), decE_fuel (m.length + 2 + 1) _ _ (by rw [sz_arr]; omega)]
      · have hyn : (y.toNat : Int) ≠ 34 := fun h => hy (by apply UInt8.toNat_inj.mp; have h34 : (34 : UInt8).toNat = 34 := rfl; omega)
        rw [bne_iff_ne.mpr hyn, hj]
        unfold unquote.f
        rw [if_neg]
        rintro ⟨e1, e2⟩
        have e1' : Lib.hasPrefix (34 :: m ++ [y]) [34] = true := e1
        have e3 : Lib.trimPrefix (34 :: m ++ [y]) [34] = m ++ [y] := by unfold Lib.trimPrefix; rw [if_pos e1']; rfl
        have e2' : Lib.hasSuffix (Lib.trimPrefix (34 :: m ++ [y]) [34]) [34] = true := e2
        rw [e3] at e2'
        unfold Lib.hasSuffix at e2'
        rw [List.isSuffixOf_iff_suffix] at e2'
        obtain ⟨t, ht⟩ := e2'
        have := List.append_inj_right' ht rfl
        exact hy (by injection this with h; exact h.symm)
    · have hxn : ¬ (x.toNat : Int) = 34 := fun h => hx (by apply UInt8.toNat_inj.mp; have h34 : (34 : UInt8).toNat = 34 := rfl; omega)
      rw [if_neg hxn, hj]
      unfold unquote.f
      rw [if_neg]
      rintro ⟨e1, _⟩
      have e1' : Lib.hasPrefix (x :: m ++ [y]) [34] = true := e1
      rw [hpre] at e1'
      exact hx (by simpa using (beq_iff_eq.mp e1').symm)
end Go.Proofs.Ytnklefbojabblaa.Z
